/- Plain laws: what lines come to. Conditions: none. -/
import Derived.Test.YtpikbndepapbhabGreatDoorKc
import Derived.RangeFuncBox
import Derived.RangeFuncLeaves
import Derived.Shelf.Abstract
import Derived.WalkKit
import Derived.OwnWalkIn
import Derived.TacticsInMore
import Derived.LoopNIn
import Derived.LoopIn
import Derived.Test.YtpikbndepapbhabGreatDoorKe
import Derived.Test.YtpikbndepapbhabGreatDoorKx
import Derived.Test.YtpikbndepapbhabGreatDoorKb
set_option linter.unusedVariables false
set_option linter.unusedSimpArgs false
namespace Go.Proofs.YtpikbndepapbhabGreatDoor
section
def ii_ (n : Int) : Int := max (-1000000) (min 1000000 n)
def ea_ (l : List Str) : Nat → Str → Int
 | 0, _ => -1
 | k + 1, s => if l.getD k [] = s then (k : Int) else ea_ l k s
def dh_ (l : List Str) (s : Str) : Int := ea_ l l.length s
theorem ls_ (l : List Str) (s : Str) : ∀ k, -1 ≤ ea_ l k s ∧ ea_ l k s < k
 | 0 => by simp [ea_]
 | k + 1 => by
  have := ls_ l s k
  simp only [ea_]; split <;> omega
theorem lz_ (l : List Str) (s : Str) : -1 ≤ dh_ l s ∧ dh_ l s < l.length := ls_ l s l.length
def twI (s : Str) (a b : Int) : Int := if s = [43] then ii_ (a + b) else if s = [45] then ii_ (a - b) else if s = [42] then ii_ (a * b) else if a < b then 1 else 0
def gk_ (s : Str) (x y : Int × Bool) : Int × Bool := if x.2 && y.2 then (twI s x.1 y.1, true) else (0, false)
mutual
def rk : E → List Str → List Int → Int × Bool
 | .mk k n s kids, N, M =>
  if k = 1 then (n, true)
  else if k = 2 then (if dh_ N s < 0 then (0, false) else (ii_ (M.getD (dh_ N s).toNat 0), true))
  else if k = 4 then rkA kids N M
  else gk_ s (rkA kids N M) (rkB kids N M)
def rkA : List E → List Str → List Int → Int × Bool
 | [], _, _ => (0, false)
 | e :: _, N, M => rk e N M
def rkB : List E → List Str → List Int → Int × Bool
 | [], _, _ => (0, false)
 | _ :: r, N, M => rkA r N M
end
theorem nv_ {e : E} (h : e.kind = 1) (N : List Str) (M : List Int) : rk e N M = (e.n, true) := by
 cases e; simp only [E.kind] at h; subst h; simp [rk, E.n]
theorem j9_ {e : E} (h : e.kind = 2) (N : List Str) (M : List Int) : rk e N M = (if dh_ N e.s < 0 then (0, false) else (ii_ (M.getD (dh_ N e.s).toNat 0), true)) := by
 cases e; simp only [E.kind] at h; subst h; simp [rk, E.s]
theorem r5_ {e : E} (h : e.kind = 4) (hk : e.kids.length = 1) (N : List Str) (M : List Int) : rk e N M = rk (e.kids.getD 0 E0) N M := by
 cases e with
 | mk k n s kids =>
  simp only [E.kind, E.kids] at h hk ⊢
  subst h
  match kids, hk with
  | [x], _ => simp [rk, rkA]
theorem nm_ {e : E} (h : e.kind = 3) (hk : e.kids.length = 2) (N : List Str) (M : List Int) : rk e N M = gk_ e.s (rk (e.kids.getD 0 E0) N M) (rk (e.kids.getD 1 E0) N M) := by
 cases e with
 | mk k n s kids =>
  simp only [E.kind, E.kids, E.s] at h hk ⊢
  subst h
  match kids, hk with
  | [x, y], _ => simp [rk, rkA, rkB]
theorem of_ (n : Int) : -1000000 ≤ ii_ n ∧ ii_ n ≤ 1000000 := by unfold ii_; omega
theorem vs_ (s : Str) (a b : Int) : -1000000 ≤ twI s a b ∧ twI s a b ≤ 1000000 := by
 unfold twI
 have := of_
 split
 ·exact this _
 ·split
  ·exact this _
  ·split
   ·exact this _
   ·split <;> omega
theorem ob_ (d : Nat) : ∀ (e : E) (N : List Str) (M : List Int), form e d = true → -1000000 ≤ (rk e N M).1 ∧ (rk e N M).1 ≤ 1000000 := by
 induction d with
 | zero => intro e N M h; have := (bd_ h).1; omega
 | succ d ih =>
  intro e N M h
  have e1 : ((d + 1 : Nat) : Int) - 1 = (d : Int) := by omega
  rcases (bd_ h).2 with ⟨k1, h1, h2, h3, h4⟩ | ⟨k1, _⟩ | ⟨k1, h1, h2, h3, h4, h5⟩ | ⟨k1, h1, h2, h3, h4⟩
  ·rw [nv_ k1]; dsimp only; omega
  ·rw [j9_ k1]; split
   ·exact ⟨by decide, by decide⟩
   ·exact of_ _
  ·rw [nm_ k1 h3]; unfold gk_; split
   ·exact vs_ _ _ _
   ·exact ⟨by decide, by decide⟩
  ·rw [r5_ k1 h3]; exact ih _ _ _ (by rw [e1] at h4; exact h4)
def co_ (b : Bl) (N : List Str) (M : List Int) : Int × Int × Bool :=
 if (rk b.expr N M).2 = true ∧ b.kind = 3 then ((rk b.expr N M).1, (rk b.thn N M).1, (rk b.thn N M).2) else ((rk b.expr N M).1, (rk b.expr N M).1, (rk b.expr N M).2)
structure Rs where
 names : List Str
 nums : List Int
 said : List Int
 ok : Bool
def cc_ (r : Rs) (b : Bl) : Rs :=
 if r.ok = false then r
 else if b.kind = 0 then r
 else if (co_ b r.names r.nums).2.2 = false then { r with ok := false }
 else if b.kind = 1 then { r with names := r.names ++ [b.name], nums := r.nums ++ [(co_ b r.names r.nums).1] }
 else if b.kind = 2 ∨ (co_ b r.names r.nums).1 ≠ 0 then { r with said := r.said ++ [(co_ b r.names r.nums).2.1] }
 else r
def bf_ (l : List Bl) : Rs := l.foldl cc_ ⟨[], [], [], true⟩
def lok (l : List Bl) : Bool := decide (1 ≤ l.length) && decide (l.length ≤ 16) && l.all bok
def bw_ (l : List Bl) : List Int × Bool := if lok l then ((bf_ l).said, (bf_ l).ok) else ([], false)
theorem se_ {r : Rs} (h : r.ok = false) (b : Bl) : cc_ r b = r := by simp [cc_, h]
theorem ms_ : ∀ (l : List Bl) (r : Rs), r.ok = false → l.foldl cc_ r = r
 | [], _, _ => rfl
 | b :: l, r, h => by rw [List.foldl_cons, se_ h]; exact ms_ l r h
theorem pk_ (r : Rs) (b : Bl) : r.said <+: (cc_ r b).said := by
 unfold cc_
 split
 ·exact List.prefix_refl _
 split
 ·exact List.prefix_refl _
 split
 ·exact List.prefix_refl _
 split
 ·exact List.prefix_refl _
 split
 ·exact List.prefix_append _ _
 ·exact List.prefix_refl _
theorem jq_ : ∀ (l : List Bl) (r : Rs), r.said <+: (l.foldl cc_ r).said
 | [], _ => List.prefix_refl _
 | b :: l, r => (pk_ r b).trans (jq_ l (cc_ r b))
theorem qp_ {r : Rs} (b : Bl) (h : r.names.length = r.nums.length) : (cc_ r b).names.length = (cc_ r b).nums.length ∧ (cc_ r b).names.length ≤ r.names.length + 1 ∧ (cc_ r b).said.length ≤ r.said.length + 1 := by
 unfold cc_
 split
 ·exact ⟨h, by omega, by omega⟩
 split
 ·exact ⟨h, by omega, by omega⟩
 split
 ·exact ⟨h, by dsimp only; omega, by dsimp only; omega⟩
 split
 ·simp [h]
 split
 ·simp [h]
 ·exact ⟨h, by omega, by omega⟩
theorem do_ {l : List Bl} {k : Nat} (h : k < l.length) : bf_ (l.take (k + 1)) = cc_ (bf_ (l.take k)) (l.getD k B0) := by
 unfold bf_
 rw [List.take_add_one, T6_ h, List.foldl_append, T8_, T6_ h]; rfl
theorem lr_ (l : List Bl) : ∀ k, k ≤ l.length → (bf_ (l.take k)).names.length = (bf_ (l.take k)).nums.length ∧ (bf_ (l.take k)).names.length ≤ k ∧ (bf_ (l.take k)).said.length ≤ k
 | 0, _ => by simp [bf_]
 | k + 1, h => by
  have := lr_ l k (by omega)
  have h2 := qp_ (l.getD k B0) this.1
  rw [do_ (by omega)]
  omega
theorem o8_ {l : List Bl} {k : Nat} (hk : k ≤ l.length) (h : (bf_ (l.take k)).ok = false) : bf_ l = bf_ (l.take k) := by
 conv => lhs; rw [← List.take_append_drop k l]
 unfold bf_ at h ⊢
 rw [List.foldl_append]
 exact ms_ _ _ h
theorem tk_ (r : Rs) : cc_ r B0 = r := by
 unfold cc_; split
 ·rfl
 ·rw [if_pos (show B0.kind = 0 from rfl)]
theorem v2_ : bok B0 = true := by decide
theorem hv_ (a b : List Bl) : bf_ (a ++ b) = b.foldl cc_ (bf_ a) := by unfold bf_; rw [List.foldl_append]
theorem nc_ (a b : List Bl) (h : a.length + b.length < 16) (ha : lok a = true) : bw_ (a ++ B0 :: b) = bw_ (a ++ b) := by
 have e1 : lok (a ++ B0 :: b) = lok (a ++ b) := by
  simp only [lok, T5_, T3_] at ha ⊢
  simp only [T2_, T7_, List.all_append, List.all_cons, v2_, Bool.true_and]
  rw [show decide (1 ≤ a.length + (b.length + 1)) = decide (1 ≤ a.length + b.length) by simp; omega, show decide (a.length + (b.length + 1) ≤ 16) = decide (a.length + b.length ≤ 16) by simp; omega]
 have e2 : bf_ (a ++ B0 :: b) = bf_ (a ++ b) := by
  rw [hv_, hv_, List.foldl_cons, tk_]
 unfold bw_
 rw [e1, e2]
theorem oq_ {a b : List Bl} (h : a.length + b.length < 16) (ha : lok a = true) : lok (a ++ b) = b.all bok := by
 simp only [lok, T5_, T3_] at ha ⊢
 rw [List.all_append, ha.2, Bool.true_and, T2_, decide_eq_true (by omega : 1 ≤ a.length + b.length), decide_eq_true (by omega : a.length + b.length ≤ 16)]; rfl
theorem r3_ {a b : List Bl} (h : a.length + b.length < 16) (ha : (bw_ a).2 = true) : b.all bok = true ∧ (bw_ a).1 <+: (bw_ (a ++ b)).1 ∨ b.all bok = false ∧ bw_ (a ++ b) = ([], false) := by
 unfold bw_ at ha
 split at ha
 next hl =>
  cases hb : b.all bok with
  | false => right; refine ⟨rfl, ?_⟩; unfold bw_; rw [oq_ h hl, hb]; rfl
  | true =>
   left; refine ⟨rfl, ?_⟩
   unfold bw_; rw [oq_ h hl, hb, hl, if_pos rfl, if_pos rfl, hv_]
   exact jq_ _ _
 next => cases ha
end
section
open Go.RowKit Go.Shelf
attribute [local go_sem] Oper.semAt_some
def dv_ {α : Type} (f : Nat → α) (n m : Nat) : List α := (((List.range n).drop m).reverse).map f
theorem iw_ {α : Type} (f : Nat → α) (n : Nat) : dv_ f n n = [] := by simp [dv_]
theorem il_ {α : Type} (f : Nat → α) {n j : Nat} (h : j < n) : dv_ f n j = dv_ f n (j + 1) ++ [f j] := by
 unfold dv_
 rw [List.drop_eq_getElem_cons (by simpa using h)]
 simp
theorem o3_ {α : Type} (f : Nat → α) (n m : Nat) : (dv_ f n m).length = n - m := by simp [dv_]
theorem iy_ {α : Type} (f : Nat → α) {n m j : Nat} (h1 : m ≤ j) (h2 : j < n) : f j ∈ dv_ f n m := by
 simp only [dv_, List.mem_map, List.mem_reverse]
 refine ⟨j, List.mem_iff_getElem?.2 ⟨j - m, ?_⟩, rfl⟩
 rw [List.getElem?_drop, List.getElem?_range (by omega)]; congr 1; omega
abbrev fd_ (s : Str) : Value := .string ⟨s.toArray⟩
abbrev bkE (x : Int × Str) : Array Value := #[.int .i64 x.1, fd_ x.2]
abbrev bkF (l : List Str) (j : Nat) : Int × Str := ((j : Int), l.getD j [])
set_option maxRecDepth 100000 in
set_option maxHeartbeats 4000000 in
theorem sl_ (F : Fence) (n : Nat) (h7 : F.fn 185) (hro : F.round = none) (hn : 1 ≤ n) (l Bs n₀ b off cap : Nat) (zs : List Str) (hreach : zs.length * 16 ≤ 140737488351232) (hb : b < n₀) (J Jx : List (Int × Str) → World → Prop)
  (hY : ∀ pre x W, J pre W → pre.length < zs.length → YieldAt F (n - 1) Tryz.prog l (bkE x) W fun e W' =>
   (e = .returned (.bool true) ∧ J (pre ++ [x]) W' ∧ Below n₀ W W') ∨ (e = .returned (.bool false) ∧ Jx (pre ++ [x]) W'))
  (W : World) (hBn : Bs < n₀) (hBs : W.cell? ⟨Bs, 0, none⟩ = some (.slice (some ⟨b, off, none⟩) zs.length cap)) (hc : ∀ j, j < zs.length → W.cell? ⟨b, off + j, none⟩ = some (fd_ (zs.getD j []))) (h0 : J [] W) :
  CallsIn F n Tryz.prog 185 #[.func (.yield l) #[] #[], .pointer (some ⟨Bs, 0, none⟩)] W fun e W' => (∃ v, e = .returned v) ∧
   ((∃ ys, ys = dv_ (bkF zs) zs.length 0 ∧ J ys W') ∨ (∃ pre, (∃ k, k ≤ zs.length ∧ pre = dv_ (bkF zs) zs.length k) ∧ Jx pre W')) := by
 refine callsIn_of_wp Tryz.func185 rfl h7 ?_ hro
 simp only [Tryz.ntmps185, List.size_toArray, T7_, List.length_nil, Nat.reduceAdd, Nat.reduceSub, Array.replicate_succ, Array.replicate_zero, List.push_toArray, List.append_toArray, List.nil_append, List.cons_append]
 gi_wp2
 gi_loopw [3] (fun i wr => ∃ m : Nat, m ≤ zs.length ∧ i = .int .i64 ((m : Int) - 1) ∧ J (dv_ (bkF zs) zs.length m) wr ∧ Below n₀ W wr)
  (fun i _ => (intOf i + 1).toNat)
 case atStart => exact ⟨zs.length, Nat.le_refl _, by first | rfl | simp [a8_ (show -9223372036854775808 ≤ (zs.length : Int) - 1 by omega) (by omega)], by rw [iw_]; exact h0, Below.refl _ _⟩
 case round =>
  obtain ⟨m, hk, rfl, hJs, hnx⟩ := hrel
  have hBx : wr.cell? ⟨Bs, 0, none⟩ = some (.slice (some ⟨b, off, none⟩) zs.length cap) := (hnx.cell (p := ⟨Bs, 0, none⟩) hBn).trans hBs
  cases m with
  | zero =>
   gi_wp2
   go_end0
   exact ⟨⟨_, rfl⟩, .inl ⟨_, rfl, hJs⟩⟩
  | succ j =>
   have hi : (((j + 1 : Nat) : Int) - 1) = (j : Int) := by omega
   rw [hi]
   have hcx : wr.cell? ⟨b, off + j, none⟩ = some (fd_ (zs.getD j [])) := (hnx.cell (p := ⟨b, off + j, none⟩) hb).trans (hc j (by omega))
   have hjl : j < zs.length := by omega
   have hst := il_ (bkF zs) hjl
   simp only [bkF] at hst
   generalize zs.getD j [] = v at hcx hst
   obtain ⟨fn, tmps, assign, body, hy, hR⟩ := hY _ ((j : Int), v) wr hJs (by rw [o3_]; omega)
   dsimp only [bkE] at hy
   gi_wp2
   refine hR.mono ?_
   rintro e W3 (⟨rfl, hJ3, hk3⟩ | ⟨rfl, hJx3⟩)
   ·gi_wp2
    go_roundw
    case rel => exact ⟨j, by omega, by simp, by rw [hst]; exact hJ3, hnx.trans hk3⟩
    case measure => simp [intOf] <;> omega
   ·gi_wp2
    refine bodyPost_ret (results_none rfl _ _ _) rfl ?_
    exact ⟨⟨_, rfl⟩, .inr ⟨_, ⟨j, by omega, hst.symm⟩, hJx3⟩⟩
theorem tz_ (F : Fence) (n : Nat) (h5 : F.fn 155) (hro : F.round = none) (a : Option Addr) (len cap : Nat) (w : World) :
  CallsIn F n Tryz.prog 155 #[.slice a len cap] w fun e w' => e = .returned (.func (.func 185) #[] #[.pointer (some ⟨w.heap.size, 0, none⟩)]) ∧ w' = w.alloc (.cells #[.slice a len cap] 76) := by
 refine callsIn_of_wp Tryz.func155 rfl h5 ?_ hro
 simp only [Tryz.ntmps155, List.size_toArray, T7_, List.length_nil, Nat.reduceAdd, Nat.reduceSub, Array.replicate_succ, Array.replicate_zero, List.push_toArray, List.append_toArray, List.nil_append, List.cons_append]
 gi_wp2
 go_ret
 exact ⟨rfl, rfl⟩
set_option maxRecDepth 100000 in
set_option maxHeartbeats 1000000 in
theorem jv_ (F : Fence) (n : Nat) (h7 : F.fn 185) (hro : F.round = none) (l Bs : Nat) (a : Option Addr) (cap : Nat) (J : List (Int × Str) → World → Prop) (W : World) (hBs : W.cell? ⟨Bs, 0, none⟩ = some (.slice a 0 cap)) (h0 : J [] W) :
  CallsIn F n Tryz.prog 185 #[.func (.yield l) #[] #[], .pointer (some ⟨Bs, 0, none⟩)] W fun e W' => (∃ v, e = .returned v) ∧ J [] W' := by
 refine callsIn_of_wp Tryz.func185 rfl h7 ?_ hro
 simp only [Tryz.ntmps185, List.size_toArray, T7_, List.length_nil, Nat.reduceAdd, Nat.reduceSub, Array.replicate_succ, Array.replicate_zero, List.push_toArray, List.append_toArray, List.nil_append, List.cons_append]
 gi_wp2
 gi_loopw [3] (fun i wr => i = .int .i64 (-1) ∧ J [] wr) (fun _ _ => 0)
 case atStart => exact ⟨rfl, h0⟩
 case round =>
  obtain ⟨rfl, hJs⟩ := hrel
  gi_wp2
  go_end0
  exact ⟨⟨_, rfl⟩, hJs⟩
def StrsAt (n₀ : Nat) (W : World) (sv : Value) (zs : List Str) : Prop :=
 ∃ A cap, sv = .slice A zs.length cap ∧ (zs ≠ [] → ∃ b off, A = some ⟨b, off, none⟩ ∧ b < n₀ ∧ ∀ j, j < zs.length → W.cell? ⟨b, off + j, none⟩ = some (fd_ (zs.getD j [])))
theorem StrsAt.below {n₀ : Nat} {A B : World} (h : Below n₀ A B) {sv : Value} {zs : List Str} : StrsAt n₀ A sv zs → StrsAt n₀ B sv zs
 | ⟨a, cap, e, k⟩ => ⟨a, cap, e, fun hne => let ⟨b, off, e2, hb, hc⟩ := k hne; ⟨b, off, e2, hb, fun j hj => (h.cell (p := ⟨b, off + j, none⟩) hb).trans (hc j hj)⟩⟩
theorem m2_ (F : Fence) (n : Nat) (h7 : F.fn 185) (hro : F.round = none) (hn : 1 ≤ n) (Bs n₀ : Nat) (sv : Value) (zs : List Str) (hreach : zs.length * 16 ≤ 140737488351232) (w : World) (hBs : Bs < w.heap.size) (hn₀ : n₀ ≤ w.heap.size) (hBn : Bs < n₀)
  (hc : w.cell? ⟨Bs, 0, none⟩ = some sv) (hI : StrsAt n₀ w sv zs) :
  SeqStopsK F n Tryz.prog 185 #[.pointer (some ⟨Bs, 0, none⟩)] bkE (Below n₀) (fun ys => ys = dv_ (bkF zs) zs.length 0) (fun pre => ∃ k, k ≤ zs.length ∧ pre = dv_ (bkF zs) zs.length k) zs.length w := fun l J Jx W hW _ _ hY h0 => by
 have hc' := (hW.cell (p := ⟨Bs, 0, none⟩) hBs).trans hc
 obtain ⟨A, cap, rfl, hne⟩ := hI.below (hW.mono hn₀)
 by_cases hz : zs = []
 ·subst hz
  exact (jv_ F n h7 hro l Bs A cap J W hc' h0).mono fun e W' ⟨he, hj⟩ => ⟨he, .inl ⟨_, rfl, hj⟩⟩
 ·obtain ⟨b, off, rfl, hb, hcs⟩ := hne hz
  exact sl_ F n h7 hro hn l Bs n₀ b off cap zs hreach hb J Jx hY W hBn hc' hcs h0
theorem jn_ {l : List Str} {s : Str} {m : Nat} (hm : l.getD m [] = s) : ∀ n, m < n → (∀ j, m < j → j < n → l.getD j [] ≠ s) → ea_ l n s = m
 | 0, h, _ => by omega
 | n + 1, h, hh => by
  simp only [ea_]
  by_cases e : m = n
  ·subst e; rw [if_pos hm]
  ·rw [if_neg (hh n (by omega) (by omega))]
   exact jn_ hm n (by omega) fun j h1 h2 => hh j h1 (by omega)
theorem ht_ {l : List Str} {s : Str} : ∀ n, (∀ j, j < n → l.getD j [] ≠ s) → ea_ l n s = -1
 | 0, _ => rfl
 | n + 1, h => by
  simp only [ea_]
  rw [if_neg (h n (by omega))]
  exact ht_ n fun j hj => h j (by omega)
set_option maxRecDepth 100000 in
set_option maxHeartbeats 4000000 in
theorem tm_ (F : Fence) (n : Nat) (h4 : F.fn 109) (h6 : F.fn 155) (h8 : F.fn 185) (hro : F.round = none) (hn : 3 ≤ n) (a : Option Addr) (cap : Nat) (zs : List Str) (s : Str) (hreach : zs.length * 16 ≤ 140737488351232) (w : World) (hI : StrsAt w.heap.size w (.slice a zs.length cap) zs) :
  CallsIn F n Tryz.prog 109 #[.slice a zs.length cap, fd_ s] w fun e W' => e = .returned (.int .i64 (dh_ zs s)) ∧ Below w.heap.size w W' := by
 have h1 : 1 ≤ n := by omega
 refine callsIn_of_wp_marks Tryz.func109 rfl h4 ?_ hro
 simp only [Tryz.ntmps109, List.size_toArray, T7_, List.length_nil, Nat.reduceAdd, Nat.reduceSub, Array.replicate_succ, Array.replicate_zero, List.push_toArray, List.append_toArray, List.nil_append, List.cons_append]
 gi_wp2_with (gi_at_call 155; refine (tz_ F (n - 1) h6 hro _ _ _ _).mono ?_; rintro e w' ⟨rfl, rfl⟩)
 have bS := Boxed.new w 9 (fd_ s)
 have bR := Boxed.new (w.alloc (.cells #[fd_ s] 9)) 3 (.int .i64 0)
 rw [World.size_alloc] at bR
 have bN := Boxed.new ((w.alloc (.cells #[fd_ s] 9)).alloc (.cells #[.int .i64 0] 3)) 76 (.slice a zs.length cap)
 rw [World.size_alloc, World.size_alloc] at bN
 have hB0 : Below w.heap.size w (((w.alloc (.cells #[fd_ s] 9)).alloc (.cells #[.int .i64 0] 3)).alloc (.cells #[.slice a zs.length cap] 76)) := (((Below.refl _ w).alloc (Nat.le_refl _) _).alloc (by simp) _).alloc (by simp only [World.size_alloc]; omega) _
 have hI3 : StrsAt (w.heap.size + 1 + 1 + 1) (((w.alloc (.cells #[fd_ s] 9)).alloc (.cells #[.int .i64 0] 3)).alloc (.cells #[.slice a zs.length cap] 76)) (.slice a zs.length cap) zs := by
  obtain ⟨A, c, e, k⟩ := hI.below hB0
  exact ⟨A, c, e, fun hne => let ⟨b, off, e2, hb, hc⟩ := k hne; ⟨b, off, e2, by omega, hc⟩⟩
 refine wpIn_rangeFunc_ownG hro h1 (gf := 185) (lb := #[.pointer (some ⟨w.heap.size + 1 + 1, 0, none⟩)]) rfl h8 (enters_of Tryz.func185 (by kernel_rfl) rfl)
  (m2_ F (n - 1) h8 hro (by omega) (w.heap.size + 1 + 1) (w.heap.size + 1 + 1 + 1) _ zs hreach _ (by simp) (by simp) (by omega) bN.cell hI3) belowK_t (belowK_b (by simp)) (Below.refl _ _) (fun _ => rfl)
  (fun pre W => ((∀ p ∈ pre, p.2 ≠ s) ∧ (W.cell? ⟨w.heap.size, 0, none⟩ = some (fd_ s) ∧ W.frozen? ⟨w.heap.size, 0, none⟩ = false) ∧ W.cell? ⟨w.heap.size + 1, 0, none⟩ = some (.int .i64 0) ∧ W.frozen? ⟨w.heap.size + 1, 0, none⟩ = false) ∧ Below w.heap.size w W)
  (fun c pre W => (c = .ret ∧ ∃ ini last, pre = ini ++ [last] ∧ (∀ p ∈ ini, p.2 ≠ s) ∧ last.2 = s ∧ W.cell? ⟨w.heap.size + 1, 0, none⟩ = some (.int .i64 last.1)) ∧ Below w.heap.size w W)
  (OwnFrom.and (Own.from (fun s A B row hs hg hr => ⟨hs.1, ⟨cell_kept hs.2.1.1 hg hr, (frozen_kept hs.2.1.1 hg hr).trans hs.2.1.2⟩, cell_kept hs.2.2.1 hg hr, (frozen_kept hs.2.2.1 hg hr).trans hs.2.2.2⟩) _) (ownFrom_below (Nat.le_refl _) (by simp; omega)))
  (fun c => OwnFrom.and (Own.from (fun s A B row hs hg hr => by obtain ⟨hc, ini, last, e1, e2, e3, e4⟩ := hs; exact ⟨hc, ini, last, e1, e2, e3, cell_kept e4 hg hr⟩) _) (ownFrom_below (Nat.le_refl _) (by simp; omega)))
  ⟨⟨by simp, ⟨((bS.alloc _).alloc _).cell, ((bS.alloc _).alloc _).frozen⟩, (bR.alloc _).cell, (bR.alloc _).frozen⟩, hB0⟩
  (fun x => { tmps := #[.slice a zs.length cap, fd_ s, undef, .pointer (some ⟨w.heap.size, 0, none⟩), .pointer (some ⟨w.heap.size + 1, 0, none⟩), .int .i64 x.1, fd_ x.2, .slice a zs.length cap, .func (.func 185) #[] #[.pointer (some ⟨w.heap.size + 1 + 1, 0, none⟩)], .int .i64 x.1, fd_ x.2, undef, undef, undef, undef], defers := [] }) ?assign ?body ?done ?stop
 case assign =>
  intro l x W K hK
  gi_wp2
  exact hK
 case body =>
  rintro l pre ⟨x1, x2⟩ W ⟨⟨hp, ⟨hcs, hfs⟩, hcr, hfr⟩, hB⟩ _
  gi_wp2
  ·have hx : (x2 == s) = true := by assumption
   exact ⟨(KeepsOthers.setCell _ _ _).from _, ⟨rfl, pre, (x1, x2), rfl, hp, by simpa using hx, World.cell?_setCell_same' _ _ _ (by rw [hcr]; rfl)⟩, hB.setCell (p := ⟨w.heap.size + 1, 0, none⟩) (by simp) _⟩
  ·have hx : (x2 == s) = false := by assumption
   exact ⟨KeepsFrom.refl _ _, Below.refl _ _, ⟨fun p hp' => (List.mem_append.1 hp').elim (hp p) (fun e => by simp at e; subst e; simpa using hx), ⟨hcs, hfs⟩, hcr, hfr⟩, hB⟩
 case done =>
  rintro D ys W hD rfl ⟨⟨hne, _, hcr, hfr⟩, hB⟩ hK
  gi_wp2
  have hK' := (KeepsOthers.setCell W ⟨w.heap.size + 1, 0, none⟩ (.int .i64 (-1))).same D _ hK rfl
  refine ⟨by simp, .inl ⟨_, _, rfl, run_takeDeferred hK', ?_⟩⟩
  have hc5 := cell_kept (World.cell?_setCell_same' W ⟨w.heap.size + 1, 0, none⟩ (.int .i64 (-1)) (by rw [hcr]; rfl)) (grownBy_putObj' _ D (.deferred none)) (fun r e => by cases e; exact ⟨_, hK', rfl⟩)
  refine ⟨.int .i64 (-1), ?_, ?_, (hB.setCell (p := ⟨w.heap.size + 1, 0, none⟩) (by simp) _).trans (belowK_b (w := w) (Nat.le_refl _) _ D _ _ (by simp at hD; omega) hK' rfl rfl)⟩
  ·simp [results, Tryz.f109, go_sem, hc5]
  ·rw [show dh_ zs s = -1 from ht_ _ fun j hj => hne (bkF zs j) (iy_ _ (Nat.zero_le _) hj)]
 case stop =>
  rintro D c pre W hD ⟨m, hk, rfl⟩ ⟨⟨rfl, ini, last, e1, e2, e3, hcr⟩, hB⟩ hK
  gi_wp2
  refine ⟨by simp, .inl ⟨_, _, rfl, run_takeDeferred hK, ?_⟩⟩
  have hc5 := cell_kept hcr (grownBy_putObj' _ D (.deferred none)) (fun r e => by cases e; exact ⟨_, hK, rfl⟩)
  have hml : m < zs.length := by
   rcases Nat.lt_or_ge m zs.length with h | h
   ·exact h
   ·obtain rfl : m = zs.length := by omega
    rw [iw_] at e1; simp at e1
  rw [il_ _ hml] at e1
  obtain ⟨rfl, e5⟩ := List.append_inj' e1 rfl
  obtain rfl : bkF zs m = last := by simpa using e5
  refine ⟨.int .i64 (m : Int), ?_, ?_, hB.trans (belowK_b (w := w) (Nat.le_refl _) W D _ _ (by simp at hD; omega) hK rfl rfl)⟩
  ·simp [results, Tryz.f109, go_sem, hc5]
  ·rw [show dh_ zs s = m from jn_ e3 _ hml fun j h1 h2 => e2 (bkF zs j) (iy_ _ h1 h2)]
theorem la_ {φ : Phi} {S : Nat → Prop} {w : World} {z : Nat} : ∀ {l : List Str} {xs : List Value}, VRr φ S w z (bn_ l) xs → xs = l.map fd_
 | [], xs, h => by simpa [bn_, VRr] using h
 | s :: l, xs, h => by
  simp only [bn_, List.map_cons, VRr] at h
  obtain ⟨ys, zs, rfl, _, h2, _, h3⟩ := h
  simp only [VRs, VR] at h2
  obtain ⟨x, r, rfl, rfl, rfl⟩ := h2
  rw [la_ h3]; rfl
theorem u9_ (l : List Str) (s : Str) (hl : l.length ≤ 1000000000000) : ACall En 109 [.sl false (bn_ l), .s s] [] [.i .i64 (dh_ l s)] [] := by
 refine gc_ (fn := Tryz.f109) Tryz.func109 rfl rfl fun S w xs hx _ _ => ?_
 simp only [VRs, VR] at hx
 obtain ⟨x, r, e1, ⟨A, c, z, ys, rfl, h2, h3, h4, h5, h6⟩, y, q, rfl, rfl, rfl⟩ := hx
 obtain rfl : xs = #[.slice A (bn_ l).length c, .string ⟨s.toArray⟩] := by apply Array.ext'; simpa using e1
 rw [am_] at *
 have hv := la_ h6
 have hI : StrsAt w.heap.size w (.slice A l.length c) l := by
  refine ⟨A, c, rfl, fun hne => ?_⟩
  obtain ⟨g, o, rfl, _, hg, hcell⟩ := h5 (by rw [hv]; simpa using hne)
  refine ⟨g, o, rfl, hg, fun j hj => hcell j _ ?_⟩
  rw [hv, List.getElem?_map, T6_ hj, T8_, T6_ hj]; rfl
 refine (callsIn_wide (n := 3)).1 ((tm_ _ 3 trivial trivial trivial rfl (by omega) A c l s (by omega) w hI).mono ?_)
 rintro e w' ⟨rfl, h⟩
 exact ⟨[_], rfl, h, .cons (by simp only [VR]) .nil⟩
end
section
set_option maxRecDepth 100000
set_option maxHeartbeats 4000000
theorem o0_ (n : Int) : ACall En 110 [.i .i64 n] [] [.i .i64 (ii_ n)] [] := by
 refine ap_ (fn := Tryz.f110) [] Tryz.func110 rfl rfl (by simp) fun C => ?_
 rw [ay_]
 simp only [Tryz.ntmps110, T7_, List.length_nil, Nat.reduceAdd, Nat.reduceSub, List.replicate_succ, List.replicate_zero, List.cons_append, List.nil_append, bl_]
 refine .seq (.rgn [] (by simp only [go_sem, seval]; rfl) ?_ ?_)
 ·first | trivial | simp
 refine .seq (.rgn [] (by simp only [go_sem, seval]; rfl) ?_ ?_)
 ·first | trivial | simp
 refine .ret ⟨.inr rfl, ?_⟩
 exact Out.plain (by simp only [Tryz.results110]; rfl) (by simp only [aw_, a3_, go_sem, seval] <;> (split <;> rfl)) (by simp only [a2_, go_sem, seval] <;> (simp only [List.cons.injEq, V.i.injEq, and_true, true_and]; unfold ii_; by_cases h : n < 1000000 <;> simp only [h, if_true, if_false] <;> split <;> omega)) (by simp only [go_sem, seval])
theorem to_ (x y : Int) : ACall En 209 [.i .i64 x, .i .i64 y] [] [.i .i64 (min x y)] [] := by
 refine ap_ (fn := Tryz.f209) [] Tryz.func209 rfl rfl (by simp) fun C => ?_
 rw [ay_]
 simp only [Tryz.ntmps209, T7_, List.length_nil, Nat.reduceAdd, Nat.reduceSub, List.replicate_succ, List.replicate_zero, List.cons_append, List.nil_append, bl_]
 refine .seq (.rgn [] (by simp only [go_sem, seval]; rfl) ?_ ?_)
 ·first | trivial | simp
 refine .seq (.seq (.rgn [] (by simp only [go_sem, seval]; rfl) ?_ ?_))
 ·first | trivial | simp
 refine .condB (by simp only [go_sem, seval]; rfl) (by simp only [go_sem, seval]) (fun h7 => ?_) (fun h7 => ?_)
 ·refine .seq (.rgn [] (by simp only [go_sem, seval]; rfl) ?_ ?_)
  ·first | trivial | simp
  refine .ret ⟨.inr rfl, ?_⟩
  exact Out.plain (by simp only [Tryz.results209]; rfl) (by simp only [aw_, a3_, go_sem, seval] <;> (split <;> rfl)) (by simp only [a2_, go_sem, seval] <;> (congr 1; simp at *; omega)) (by simp only [go_sem, seval])
 ·refine .skip (.seq (.rgn [] (by simp only [go_sem, seval]; rfl) ?_ ?_))
  ·first | trivial | simp
  refine .ret ⟨.inr rfl, ?_⟩
  exact Out.plain (by simp only [Tryz.results209]; rfl) (by simp only [aw_, a3_, go_sem, seval] <;> (split <;> rfl)) (by simp only [a2_, go_sem, seval] <;> (congr 1; simp at *; omega)) (by simp only [go_sem, seval])
theorem ri_ (x y : Int) : ACall En 207 [.i .i64 x, .i .i64 y] [] [.i .i64 (max x y)] [] := by
 refine ap_ (fn := Tryz.f207) [] Tryz.func207 rfl rfl (by simp) fun C => ?_
 rw [ay_]
 simp only [Tryz.ntmps207, T7_, List.length_nil, Nat.reduceAdd, Nat.reduceSub, List.replicate_succ, List.replicate_zero, List.cons_append, List.nil_append, bl_]
 refine .seq (.rgn [] (by simp only [go_sem, seval]; rfl) ?_ ?_)
 ·first | trivial | simp
 refine .seq (.seq (.rgn [] (by simp only [go_sem, seval]; rfl) ?_ ?_))
 ·first | trivial | simp
 refine .condB (by simp only [go_sem, seval]; rfl) (by simp only [go_sem, seval]) (fun h7 => ?_) (fun h7 => ?_)
 ·refine .seq (.rgn [] (by simp only [go_sem, seval]; rfl) ?_ ?_)
  ·first | trivial | simp
  refine .ret ⟨.inr rfl, ?_⟩
  exact Out.plain (by simp only [Tryz.results207]; rfl) (by simp only [aw_, a3_, go_sem, seval] <;> (split <;> rfl)) (by simp only [a2_, go_sem, seval] <;> (congr 1; simp at *; omega)) (by simp only [go_sem, seval])
 ·refine .skip (.seq (.rgn [] (by simp only [go_sem, seval]; rfl) ?_ ?_))
  ·first | trivial | simp
  refine .ret ⟨.inr rfl, ?_⟩
  exact Out.plain (by simp only [Tryz.results207]; rfl) (by simp only [aw_, a3_, go_sem, seval] <;> (split <;> rfl)) (by simp only [a2_, go_sem, seval] <;> (congr 1; simp at *; omega)) (by simp only [go_sem, seval])
theorem km_ (n : Int) : ACall En 187 [.i .i64 n] [] [.i .i64 (ii_ n)] [] := by
 refine ap_ (fn := Tryz.f187) [] Tryz.func187 rfl rfl (by simp) fun C => ?_
 rw [ay_]
 simp only [Tryz.ntmps187, T7_, List.length_nil, Nat.reduceAdd, Nat.reduceSub, List.replicate_succ, List.replicate_zero, List.cons_append, List.nil_append, bl_]
 refine .seq (.rgn [] (by simp only [go_sem, seval]; rfl) ?_ ?_)
 ·first | trivial | simp
 refine .seq (.rgn [a4_ (to_ 1000000 n), a4_ (ri_ (-1000000) (min 1000000 n))] (by simp only [go_sem, seval]; rfl) ?_ ?_)
 ·first | trivial | simp
 refine .ret ⟨.inr rfl, ?_⟩
 exact Out.plain (by simp only [Tryz.results187]; rfl) (by simp only [aw_, a3_, go_sem, seval] <;> (split <;> rfl)) (by simp only [a2_, go_sem, seval] <;> (rfl)) (by simp only [go_sem, seval])
theorem un_ (N : List Str) (s : Str) (hl : N.length ≤ 1000000) : ACall En 186 [.sl false (bn_ N), .s s] [] [.i .i64 (dh_ N s)] [] := by
 refine ap_ (fn := Tryz.f186) [] Tryz.func186 rfl rfl (by simp) fun C => ?_
 rw [ay_]
 simp only [Tryz.ntmps186, T7_, List.length_nil, Nat.reduceAdd, Nat.reduceSub, List.replicate_succ, List.replicate_zero, List.cons_append, List.nil_append, bl_]
 refine .seq (.rgn [] (by simp only [go_sem, seval, am_, ag_]; rfl) ?_ ?_)
 ·first | trivial | simp
 refine .seq (.seq (.rgn [] (by simp only [go_sem, seval, am_, ag_]; rfl) ?_ ?_))
 ·first | trivial | simp
 refine .block (.loopK (fun k : Nat => ⟨[.sl false (bn_ N), .s s, .no, .no, .no, .i .i64 ((k : Int) - 1), .no, .no, .no, .no, .no, .no, .no, .no, .no, .no, .no, .no, .no, .no], a1_ [], us []⟩) (fun k : Nat => k ≤ N.length ∧ dh_ N s = ea_ N k s) (fun k : Nat => k) (N.length) ?_ ?_ (fun k hI => ?_))
 ·exact ⟨Nat.le_refl _, rfl⟩
 ·exact Can.weak (Weak.lit (by simp only [go_sem, seval, am_, ag_, au_, leV, as_, at_, V.inn, us, T9_, Ta_] <;> (rw [a8_ (by omega) (by omega)])) (by simp only [go_sem, seval, am_, ag_, au_, leV, as_, at_, V.inn, us, T9_, Ta_]) (by simp only [go_sem, seval, am_, ag_, au_, leV, as_, at_, V.inn, us, T9_, Ta_]))
 refine .seq (.seq (.rgn [] (by simp only [go_sem, seval, am_, ag_]; rfl) ?_ ?_))
 ·first | trivial | simp
 refine .condB (by simp only [go_sem, seval, am_, ag_]; rfl) (by simp only [go_sem, seval, am_, ag_]) (fun h10 => ?_) (fun h10 => ?_)
 ·refine .skip (.seq (.block (.seq (.rgn [] (by simp only [go_sem, seval, am_, ag_, fi_ (show k - 1 < N.length by simp at h10; omega), show ((k : Int) - 1).toNat = k - 1 by omega]; rfl) ?_ ?_))))
  ·simp at h10; simp; omega
  refine .condB (by simp only [go_sem, seval, am_, ag_]; rfl) (by simp only [go_sem, seval, am_, ag_]) (fun h18 => ?_) (fun h18 => ?_)
  ·refine .seq (.rgn [] (by simp only [go_sem, seval, am_, ag_]; rfl) ?_ ?_)
   ·first | trivial | simp
   refine .ret ⟨.inr rfl, ?_⟩
   exact Out.plain (by simp only [Tryz.results186]; rfl) (by simp only [aw_, a3_, go_sem, seval, am_, ag_] <;> (split <;> rfl)) (by simp only [a2_, go_sem, seval, am_, ag_] <;> (simp at h10; (obtain ⟨j, rfl⟩ : ∃ j, k = j + 1 := ⟨k - 1, by omega⟩); rw [hI.2]; simp only [ea_]; rw [if_pos (by simpa using h18)]; simp only [List.cons.injEq, V.i.injEq, and_true, true_and]; omega)) (by simp only [go_sem, seval, am_, ag_])
  ·refine .skip (.rgn [] (by simp only [go_sem, seval, am_, ag_]; rfl) ?_ ?_)
   ·first | trivial | simp
   refine Exists.intro (k - 1) ⟨?_, ?_, ?_⟩
   ·simp at h10; refine ⟨by omega, ?_⟩; rw [hI.2]; (obtain ⟨j, rfl⟩ : ∃ j, k = j + 1 := ⟨k - 1, by omega⟩); simp only [ea_]; rw [if_neg (by simpa using h18)]; rfl
   ·simp at h10; omega
   exact Can.weak (Weak.lit (by simp only [go_sem, seval, am_, ag_, au_, leV, as_, at_, V.inn, us, T9_, Ta_] <;> (simp at h10; rw [a8_ (by omega) (by omega)]; simp; omega)) (by simp only [go_sem, seval, am_, ag_, au_, leV, as_, at_, V.inn, us, T9_, Ta_]) (by simp only [go_sem, seval, am_, ag_, au_, leV, as_, at_, V.inn, us, T9_, Ta_]))
 ·refine .exit (.seq (.rgn [] (by simp only [go_sem, seval, am_, ag_]; rfl) ?_ ?_))
  ·first | trivial | simp
  refine .ret ⟨.inr rfl, ?_⟩
  exact Out.plain (by simp only [Tryz.results186]; rfl) (by simp only [aw_, a3_, go_sem, seval, am_, ag_] <;> (split <;> rfl)) (by simp only [a2_, go_sem, seval, am_, ag_] <;> (simp at h10; (obtain rfl : k = 0 := (by omega)); rw [hI.2]; rfl)) (by simp only [go_sem, seval, am_, ag_])
theorem m7_ (a b : Int) (ha : -1000000 ≤ a ∧ a ≤ 1000000) (hb : -1000000 ≤ b ∧ b ≤ 1000000) : -1000000000000 ≤ a * b ∧ a * b ≤ 1000000000000 := by
 have h1 : (a * b).natAbs ≤ 1000000 * 1000000 := by rw [Int.natAbs_mul]; exact Nat.mul_le_mul (by omega) (by omega)
 omega
theorem u6_ (s : Str) (a b : Int) (ha : -1000000 ≤ a ∧ a ≤ 1000000) (hb : -1000000 ≤ b ∧ b ≤ 1000000) : ACall En 188 [.s s, .i .i64 a, .i .i64 b] [] [.i .i64 (twI s a b)] [] := by
 have hm := m7_ a b ha hb
 refine ap_ (fn := Tryz.f188) [] Tryz.func188 rfl rfl (by simp) fun C => ?_
 rw [ay_]
 simp only [Tryz.ntmps188, T7_, List.length_nil, Nat.reduceAdd, Nat.reduceSub, List.replicate_succ, List.replicate_zero, List.cons_append, List.nil_append, bl_]
 refine .seq (.rgn [] (by simp only [go_sem, seval]; rfl) ?_ ?_)
 ·first | trivial | simp
 refine .seq (.seq (.rgn [] (by simp only [go_sem, seval]; rfl) ?_ ?_))
 ·first | trivial | simp
 refine .block (.seq (.rgn [] (by simp only [go_sem, seval]; rfl) ?_ ?_))
 ·first | trivial | simp
 refine .condB (by simp only [go_sem, seval]; rfl) (by simp only [go_sem, seval]) (fun h8 => ?_) (fun h8 => ?_)
 ·refine .seq (.rgn [a4_ (km_ (a + b))] (by simp only [go_sem, seval, a8_ (show -9223372036854775808 ≤ a + b by omega) (by omega)]; rfl) ?_ ?_)
  ·first | trivial | simp
  refine .ret ⟨.inr rfl, ?_⟩
  exact Out.plain (by simp only [Tryz.results188]; rfl) (by simp only [aw_, a3_, go_sem, seval] <;> (split <;> rfl)) (by simp only [a2_, go_sem, seval] <;> (simp_all [twI])) (by simp only [go_sem, seval])
 ·refine .seq (.rgn [] (by simp only [go_sem, seval]; rfl) ?_ ?_)
  ·first | trivial | simp
  refine .condB (by simp only [go_sem, seval]; rfl) (by simp only [go_sem, seval]) (fun h14 => ?_) (fun h14 => ?_)
  ·refine .seq (.rgn [a4_ (km_ (a - b))] (by simp only [go_sem, seval, a8_ (show -9223372036854775808 ≤ a - b by omega) (by omega)]; rfl) ?_ ?_)
   ·first | trivial | simp
   refine .ret ⟨.inr rfl, ?_⟩
   exact Out.plain (by simp only [Tryz.results188]; rfl) (by simp only [aw_, a3_, go_sem, seval] <;> (split <;> rfl)) (by simp only [a2_, go_sem, seval] <;> (simp_all [twI])) (by simp only [go_sem, seval])
  ·refine .seq (.rgn [] (by simp only [go_sem, seval]; rfl) ?_ ?_)
   ·first | trivial | simp
   refine .condB (by simp only [go_sem, seval]; rfl) (by simp only [go_sem, seval]) (fun h20 => ?_) (fun h20 => ?_)
   ·refine .seq (.rgn [a4_ (km_ (a * b))] (by simp only [go_sem, seval, a8_ (show -9223372036854775808 ≤ a * b by omega) (by omega)]; rfl) ?_ ?_)
    ·first | trivial | simp
    refine .ret ⟨.inr rfl, ?_⟩
    exact Out.plain (by simp only [Tryz.results188]; rfl) (by simp only [aw_, a3_, go_sem, seval] <;> (split <;> rfl)) (by simp only [a2_, go_sem, seval] <;> (simp_all [twI])) (by simp only [go_sem, seval])
   ·refine .skip (.seq (.seq (.rgn [] (by simp only [go_sem, seval]; rfl) ?_ ?_)))
    ·first | trivial | simp
    refine .condB (by simp only [go_sem, seval]; rfl) (by simp only [go_sem, seval]) (fun h28 => ?_) (fun h28 => ?_)
    ·refine .seq (.rgn [] (by simp only [go_sem, seval]; rfl) ?_ ?_)
     ·first | trivial | simp
     refine .ret ⟨.inr rfl, ?_⟩
     exact Out.plain (by simp only [Tryz.results188]; rfl) (by simp only [aw_, a3_, go_sem, seval] <;> (split <;> rfl)) (by simp only [a2_, go_sem, seval] <;> (simp_all [twI])) (by simp only [go_sem, seval])
    ·refine .skip (.seq (.rgn [] (by simp only [go_sem, seval]; rfl) ?_ ?_))
     ·first | trivial | simp
     refine .ret ⟨.inr rfl, ?_⟩
     exact Out.plain (by simp only [Tryz.results188]; rfl) (by simp only [aw_, a3_, go_sem, seval] <;> (split <;> rfl)) (by simp only [a2_, go_sem, seval] <;> (simp_all [twI])) (by simp only [go_sem, seval])
theorem kz_ (d : Nat) : ∀ (e : E) (N : List Str) (M : List Int), form e d = true → N.length = M.length → N.length ≤ 1000000 → ACall En 59 [.ag (eC e), .sl false (bn_ N), .sl false (inR M)] [] [.i .i64 (rk e N M).1, .b (rk e N M).2] [] := by
 induction d with
 | zero => intro e N M h; have := (bd_ h).1; omega
 | succ d ih =>
 intro e N M h hl hn
 have e1 : ((d + 1 : Nat) : Int) - 1 = (d : Int) := by omega
 have g3 : e.kind = 3 → e.kids.length = 2 ∧ form (e.kids.getD 0 E0) d = true ∧ form (e.kids.getD 1 E0) d = true ∧ ei_ e.s = true := fun hk => by
  rcases (bd_ h).2 with ⟨k1, _⟩ | ⟨k1, _⟩ | ⟨k1, h1, h2, h3, h4, h5⟩ | ⟨k1, _⟩ <;> try omega
  rw [e1] at h4 h5; exact ⟨h3, h4, h5, h2⟩
 have g4 : e.kind = 4 → e.kids.length = 1 ∧ form (e.kids.getD 0 E0) d = true := fun hk => by
  rcases (bd_ h).2 with ⟨k1, _⟩ | ⟨k1, _⟩ | ⟨k1, _⟩ | ⟨k1, h1, h2, h3, h4⟩ <;> try omega
  rw [e1] at h4; exact ⟨h3, h4⟩
 have g0 : ¬ e.kind = 1 → ¬ e.kind = 2 → ¬ e.kind = 4 → e.kind = 3 := fun a b c => by
  rcases (bd_ h).2 with ⟨k1, _⟩ | ⟨k1, _⟩ | ⟨k1, _⟩ | ⟨k1, _⟩ <;> omega
 have hb := lz_ N e.s
 have Q : e.kind = 3 → (-1000000 ≤ (rk (e.kids.getD 0 E0) N M).1 ∧ (rk (e.kids.getD 0 E0) N M).1 ≤ 1000000) ∧ (-1000000 ≤ (rk (e.kids.getD 1 E0) N M).1 ∧ (rk (e.kids.getD 1 E0) N M).1 ≤ 1000000) := fun hk =>
  ⟨ob_ d _ N M (g3 hk).2.1, ob_ d _ N M (g3 hk).2.2.1⟩
 have P := fun hk => m7_ _ _ (Q hk).1 (Q hk).2
 have R1 := @nv_ e
 have R2 := @j9_ e
 have R3 : e.kind = 3 → rk e N M = gk_ e.s (rk (e.kids.getD 0 E0) N M) (rk (e.kids.getD 1 E0) N M) := fun hk => nm_ hk (g3 hk).1 N M
 have R4 : e.kind = 4 → rk e N M = rk (e.kids.getD 0 E0) N M := fun hk => r5_ hk (g4 hk).1 N M
 refine ap_ (fn := Tryz.f59) [] Tryz.func59 rfl rfl (by simp) fun C => ?_
 rw [ay_]
 simp only [Tryz.ntmps59, T7_, List.length_nil, Nat.reduceAdd, Nat.reduceSub, List.replicate_succ, List.replicate_zero, List.cons_append, List.nil_append, bl_]
 refine .seq (.rgn [] (by simp only [go_sem, seval, ah_, aa_]; rfl) ?_ ?_)
 ·first | trivial | simp
 refine .seq (.seq (.rgn [] (by simp only [go_sem, seval, ah_, aa_]; rfl) ?_ ?_))
 ·first | trivial | simp
 refine .block (.seq (.rgn [] (by simp only [go_sem, seval, ah_, aa_]; rfl) ?_ ?_))
 ·first | trivial | simp
 refine .condB (by simp only [go_sem, seval, ah_, aa_]; rfl) (by simp only [go_sem, seval, ah_, aa_]) (fun h15 => ?_) (fun h15 => ?_)
 ·refine .seq (.rgn [] (by simp only [go_sem, seval, ah_, aa_]; rfl) ?_ ?_)
  ·first | trivial | simp
  refine .ret ⟨.inr rfl, ?_⟩
  exact Out.plain (by simp only [Tryz.results59]; rfl) (by simp only [aw_, a3_, go_sem, seval, ah_, aa_] <;> (split <;> rfl)) (by simp only [a2_, go_sem, seval, ah_, aa_] <;> (rw [R1 (by simpa using h15)])) (by simp only [go_sem, seval, ah_, aa_])
 ·refine .seq (.rgn [] (by simp only [go_sem, seval, ah_, aa_]; rfl) ?_ ?_)
  ·first | trivial | simp
  refine .condB (by simp only [go_sem, seval, ah_, aa_]; rfl) (by simp only [go_sem, seval, ah_, aa_]) (fun h19 => ?_) (fun h19 => ?_)
  ·refine .seq (.rgn [a4_ (u9_ N e.s (by omega))] (by simp only [go_sem, seval, ah_, aa_]; rfl) ?_ ?_)
   ·first | trivial | simp
   refine .seq (.seq (.rgn [] (by simp only [go_sem, seval, ah_, aa_]; rfl) ?_ ?_))
   ·first | trivial | simp
   refine .condB (by simp only [go_sem, seval, ah_, aa_]; rfl) (by simp only [go_sem, seval, ah_, aa_]) (fun h26 => ?_) (fun h26 => ?_)
   ·refine .seq (.rgn [] (by simp only [go_sem, seval, ah_, aa_]; rfl) ?_ ?_)
    ·first | trivial | simp
    refine .ret ⟨.inr rfl, ?_⟩
    exact Out.plain (by simp only [Tryz.results59]; rfl) (by simp only [aw_, a3_, go_sem, seval, ah_, aa_] <;> (split <;> rfl)) (by simp only [a2_, go_sem, seval, ah_, aa_] <;> (rw [R2 (by simpa using h19), if_pos (by simpa using h26)])) (by simp only [go_sem, seval, ah_, aa_])
   ·refine .skip (.seq (.rgn [a4_ (o0_ (M.getD (dh_ N e.s).toNat 0))] (by simp only [go_sem, seval, ah_, aa_, g8_ (show (dh_ N e.s).toNat < M.length by simp at h26; omega)]; rfl) ?_ ?_))
    ·simp at h26; (try simp); omega
    refine .ret ⟨.inr rfl, ?_⟩
    exact Out.plain (by simp only [Tryz.results59]; rfl) (by simp only [aw_, a3_, go_sem, seval, ah_, aa_] <;> (split <;> rfl)) (by simp only [a2_, go_sem, seval, ah_, aa_] <;> (rw [R2 (by simpa using h19), if_neg (by simpa using h26)])) (by simp only [go_sem, seval, ah_, aa_])
  ·refine .seq (.rgn [] (by simp only [go_sem, seval, ah_, aa_]; rfl) ?_ ?_)
   ·first | trivial | simp
   refine .condB (by simp only [go_sem, seval, ah_, aa_]; rfl) (by simp only [go_sem, seval, ah_, aa_]) (fun h32 => ?_) (fun h32 => ?_)
   ·refine .seq (.rgn [a4_ (ih (e.kids.getD 0 E0) N M (g4 (by simpa using h32)).2 hl hn)] (by simp only [go_sem, seval, ah_, aa_, b4_ (show 0 < e.kids.length by have := g4 (by simpa using h32); omega)]; rfl) ?_ ?_)
    ·have := g4 (by simpa using h32); simp; omega
    refine .ret ⟨.inr rfl, ?_⟩
    exact Out.plain (by simp only [Tryz.results59]; rfl) (by simp only [aw_, a3_, go_sem, seval, ah_, aa_] <;> (split <;> rfl)) (by simp only [a2_, go_sem, seval, ah_, aa_] <;> (rw [R4 (by simpa using h32)])) (by simp only [go_sem, seval, ah_, aa_])
   ·refine .skip (.seq (.rgn [a4_ (ih (e.kids.getD 0 E0) N M (g3 (g0 (by simpa using h15) (by simpa using h19) (by simpa using h32))).2.1 hl hn)] (by simp only [go_sem, seval, ah_, aa_, b4_ (show 0 < e.kids.length by have := g3 (g0 (by simpa using h15) (by simpa using h19) (by simpa using h32)); omega)]; rfl) ?_ ?_))
    ·have := g3 (g0 (by simpa using h15) (by simpa using h19) (by simpa using h32)); simp; omega
    refine .seq (.rgn [a4_ (ih (e.kids.getD 1 E0) N M (g3 (g0 (by simpa using h15) (by simpa using h19) (by simpa using h32))).2.2.1 hl hn)] (by simp only [go_sem, seval, ah_, aa_, b4_ (show 1 < e.kids.length by have := g3 (g0 (by simpa using h15) (by simpa using h19) (by simpa using h32)); omega)]; rfl) ?_ ?_)
    ·have := g3 (g0 (by simpa using h15) (by simpa using h19) (by simpa using h32)); simp; omega
    refine .seq (.seq (.rgn [] (by simp only [go_sem, seval, ah_, aa_]; rfl) ?_ ?_))
    ·first | trivial | simp
    refine .condB (by simp only [go_sem, seval, ah_, aa_]; rfl) (by simp only [go_sem, seval, ah_, aa_]) (fun h68 => ?_) (fun h68 => ?_)
    ·refine .seq (.rgn [] (by simp only [go_sem, seval, ah_, aa_]; rfl) ?_ ?_)
     ·first | trivial | simp
     refine .ret ⟨.inr rfl, ?_⟩
     exact Out.plain (by simp only [Tryz.results59]; rfl) (by simp only [aw_, a3_, go_sem, seval, ah_, aa_] <;> (split <;> rfl)) (by simp only [a2_, go_sem, seval, ah_, aa_] <;> (rw [R3 (g0 (by simpa using h15) (by simpa using h19) (by simpa using h32))]; simp at h68; (rcases h68 with h | h <;> simp [gk_, h]))) (by simp only [go_sem, seval, ah_, aa_])
    ·refine .skip (.seq (.seq (.rgn [] (by simp only [go_sem, seval, ah_, aa_]; rfl) ?_ ?_)))
     ·first | trivial | simp
     refine .block (.seq (.rgn [] (by simp only [go_sem, seval, ah_, aa_]; rfl) ?_ ?_))
     ·first | trivial | simp
     refine .condB (by simp only [go_sem, seval, ah_, aa_]; rfl) (by simp only [go_sem, seval, ah_, aa_]) (fun h71 => ?_) (fun h71 => ?_)
     ·refine .seq (.rgn [a4_ (o0_ ((rk (e.kids.getD 0 E0) N M).1 + (rk (e.kids.getD 1 E0) N M).1))] (by simp only [go_sem, seval, ah_, aa_, a8_ (show -9223372036854775808 ≤ (rk (e.kids.getD 0 E0) N M).1 + (rk (e.kids.getD 1 E0) N M).1 by have := Q (g0 (by simpa using h15) (by simpa using h19) (by simpa using h32)); omega) (by have := Q (g0 (by simpa using h15) (by simpa using h19) (by simpa using h32)); omega)]; rfl) ?_ ?_)
      ·first | trivial | simp
      refine .ret ⟨.inr rfl, ?_⟩
      exact Out.plain (by simp only [Tryz.results59]; rfl) (by simp only [aw_, a3_, go_sem, seval, ah_, aa_] <;> (split <;> rfl)) (by simp only [a2_, go_sem, seval, ah_, aa_] <;> (rw [R3 (g0 (by simpa using h15) (by simpa using h19) (by simpa using h32))]; simp at h68 h71; simp [gk_, twI, h68, h71])) (by simp only [go_sem, seval, ah_, aa_])
     ·refine .seq (.rgn [] (by simp only [go_sem, seval, ah_, aa_]; rfl) ?_ ?_)
      ·first | trivial | simp
      refine .condB (by simp only [go_sem, seval, ah_, aa_]; rfl) (by simp only [go_sem, seval, ah_, aa_]) (fun h77 => ?_) (fun h77 => ?_)
      ·refine .seq (.rgn [a4_ (o0_ ((rk (e.kids.getD 0 E0) N M).1 - (rk (e.kids.getD 1 E0) N M).1))] (by simp only [go_sem, seval, ah_, aa_, a8_ (show -9223372036854775808 ≤ (rk (e.kids.getD 0 E0) N M).1 - (rk (e.kids.getD 1 E0) N M).1 by have := Q (g0 (by simpa using h15) (by simpa using h19) (by simpa using h32)); omega) (by have := Q (g0 (by simpa using h15) (by simpa using h19) (by simpa using h32)); omega)]; rfl) ?_ ?_)
       ·first | trivial | simp
       refine .ret ⟨.inr rfl, ?_⟩
       exact Out.plain (by simp only [Tryz.results59]; rfl) (by simp only [aw_, a3_, go_sem, seval, ah_, aa_] <;> (split <;> rfl)) (by simp only [a2_, go_sem, seval, ah_, aa_] <;> (rw [R3 (g0 (by simpa using h15) (by simpa using h19) (by simpa using h32))]; simp at h68 h71 h77; simp [gk_, twI, h68, h71, h77])) (by simp only [go_sem, seval, ah_, aa_])
      ·refine .seq (.rgn [] (by simp only [go_sem, seval, ah_, aa_]; rfl) ?_ ?_)
       ·first | trivial | simp
       refine .condB (by simp only [go_sem, seval, ah_, aa_]; rfl) (by simp only [go_sem, seval, ah_, aa_]) (fun h83 => ?_) (fun h83 => ?_)
       ·refine .seq (.rgn [a4_ (o0_ ((rk (e.kids.getD 0 E0) N M).1 * (rk (e.kids.getD 1 E0) N M).1))] (by simp only [go_sem, seval, ah_, aa_, a8_ (show -9223372036854775808 ≤ (rk (e.kids.getD 0 E0) N M).1 * (rk (e.kids.getD 1 E0) N M).1 by have := P (g0 (by simpa using h15) (by simpa using h19) (by simpa using h32)); omega) (by have := P (g0 (by simpa using h15) (by simpa using h19) (by simpa using h32)); omega)]; rfl) ?_ ?_)
        ·first | trivial | simp
        refine .ret ⟨.inr rfl, ?_⟩
        exact Out.plain (by simp only [Tryz.results59]; rfl) (by simp only [aw_, a3_, go_sem, seval, ah_, aa_] <;> (split <;> rfl)) (by simp only [a2_, go_sem, seval, ah_, aa_] <;> (rw [R3 (g0 (by simpa using h15) (by simpa using h19) (by simpa using h32))]; simp at h68 h71 h77 h83; simp [gk_, twI, h68, h71, h77, h83])) (by simp only [go_sem, seval, ah_, aa_])
       ·refine .skip (.seq (.seq (.rgn [] (by simp only [go_sem, seval, ah_, aa_]; rfl) ?_ ?_)))
        ·first | trivial | simp
        refine .condB (by simp only [go_sem, seval, ah_, aa_]; rfl) (by simp only [go_sem, seval, ah_, aa_]) (fun h91 => ?_) (fun h91 => ?_)
        ·refine .seq (.rgn [] (by simp only [go_sem, seval, ah_, aa_]; rfl) ?_ ?_)
         ·first | trivial | simp
         refine .ret ⟨.inr rfl, ?_⟩
         exact Out.plain (by simp only [Tryz.results59]; rfl) (by simp only [aw_, a3_, go_sem, seval, ah_, aa_] <;> (split <;> rfl)) (by simp only [a2_, go_sem, seval, ah_, aa_] <;> (rw [R3 (g0 (by simpa using h15) (by simpa using h19) (by simpa using h32))]; simp at h68 h71 h77 h83 h91; simp [gk_, twI, h68, h71, h77, h83, h91])) (by simp only [go_sem, seval, ah_, aa_])
        ·refine .skip (.seq (.rgn [] (by simp only [go_sem, seval, ah_, aa_]; rfl) ?_ ?_))
         ·first | trivial | simp
         refine .ret ⟨.inr rfl, ?_⟩
         exact Out.plain (by simp only [Tryz.results59]; rfl) (by simp only [aw_, a3_, go_sem, seval, ah_, aa_] <;> (split <;> rfl)) (by simp only [a2_, go_sem, seval, ah_, aa_] <;> (rw [R3 (g0 (by simpa using h15) (by simpa using h19) (by simpa using h32))]; simp at h68 h71 h77 h83 h91; simp [gk_, twI, h68, h71, h77, h83, Int.not_lt.2 h91])) (by simp only [go_sem, seval, ah_, aa_])
theorem us_ (d : Nat) : ∀ (e : E) (N : List Str) (M : List Int), form e d = true → N.length = M.length → N.length ≤ 1000000 → ACall En 156 [.ag (eC e), .sl false (bn_ N), .sl false (inR M)] [] [.i .i64 (rk e N M).1, .b (rk e N M).2] [] := by
 induction d with
 | zero => intro e N M h; have := (bd_ h).1; omega
 | succ d ih =>
 intro e N M h hl hn
 have e1 : ((d + 1 : Nat) : Int) - 1 = (d : Int) := by omega
 have g3 : e.kind = 3 → e.kids.length = 2 ∧ form (e.kids.getD 0 E0) d = true ∧ form (e.kids.getD 1 E0) d = true ∧ ei_ e.s = true := fun hk => by
  rcases (bd_ h).2 with ⟨k1, _⟩ | ⟨k1, _⟩ | ⟨k1, h1, h2, h3, h4, h5⟩ | ⟨k1, _⟩ <;> try omega
  rw [e1] at h4 h5; exact ⟨h3, h4, h5, h2⟩
 have g4 : e.kind = 4 → e.kids.length = 1 ∧ form (e.kids.getD 0 E0) d = true := fun hk => by
  rcases (bd_ h).2 with ⟨k1, _⟩ | ⟨k1, _⟩ | ⟨k1, _⟩ | ⟨k1, h1, h2, h3, h4⟩ <;> try omega
  rw [e1] at h4; exact ⟨h3, h4⟩
 have g0 : ¬ e.kind = 1 → ¬ e.kind = 2 → ¬ e.kind = 4 → e.kind = 3 := fun a b c => by
  rcases (bd_ h).2 with ⟨k1, _⟩ | ⟨k1, _⟩ | ⟨k1, _⟩ | ⟨k1, _⟩ <;> omega
 have hb := lz_ N e.s
 have Q : e.kind = 3 → (-1000000 ≤ (rk (e.kids.getD 0 E0) N M).1 ∧ (rk (e.kids.getD 0 E0) N M).1 ≤ 1000000) ∧ (-1000000 ≤ (rk (e.kids.getD 1 E0) N M).1 ∧ (rk (e.kids.getD 1 E0) N M).1 ≤ 1000000) := fun hk =>
  ⟨ob_ d _ N M (g3 hk).2.1, ob_ d _ N M (g3 hk).2.2.1⟩
 have P := fun hk => m7_ _ _ (Q hk).1 (Q hk).2
 have R1 := @nv_ e
 have R2 := @j9_ e
 have R3 : e.kind = 3 → rk e N M = gk_ e.s (rk (e.kids.getD 0 E0) N M) (rk (e.kids.getD 1 E0) N M) := fun hk => nm_ hk (g3 hk).1 N M
 have R4 : e.kind = 4 → rk e N M = rk (e.kids.getD 0 E0) N M := fun hk => r5_ hk (g4 hk).1 N M
 refine ap_ (fn := Tryz.f156) [] Tryz.func156 rfl rfl (by simp) fun C => ?_
 rw [ay_]
 simp only [Tryz.ntmps156, T7_, List.length_nil, Nat.reduceAdd, Nat.reduceSub, List.replicate_succ, List.replicate_zero, List.cons_append, List.nil_append, bl_]
 refine .seq (.rgn [] (by simp only [go_sem, seval, ah_, aa_]; rfl) ?_ ?_)
 ·first | trivial | simp
 refine .seq (.seq (.rgn [] (by simp only [go_sem, seval, ah_, aa_]; rfl) ?_ ?_))
 ·first | trivial | simp
 refine .block (.seq (.rgn [] (by simp only [go_sem, seval, ah_, aa_]; rfl) ?_ ?_))
 ·first | trivial | simp
 refine .condB (by simp only [go_sem, seval, ah_, aa_]; rfl) (by simp only [go_sem, seval, ah_, aa_]) (fun h15 => ?_) (fun h15 => ?_)
 ·refine .seq (.rgn [] (by simp only [go_sem, seval, ah_, aa_]; rfl) ?_ ?_)
  ·first | trivial | simp
  refine .ret ⟨.inr rfl, ?_⟩
  exact Out.plain (by simp only [Tryz.results156]; rfl) (by simp only [aw_, a3_, go_sem, seval, ah_, aa_] <;> (split <;> rfl)) (by simp only [a2_, go_sem, seval, ah_, aa_] <;> (rw [R1 (by simpa using h15)])) (by simp only [go_sem, seval, ah_, aa_])
 ·refine .seq (.rgn [] (by simp only [go_sem, seval, ah_, aa_]; rfl) ?_ ?_)
  ·first | trivial | simp
  refine .condB (by simp only [go_sem, seval, ah_, aa_]; rfl) (by simp only [go_sem, seval, ah_, aa_]) (fun h19 => ?_) (fun h19 => ?_)
  ·refine .seq (.rgn [a4_ (un_ N e.s (by omega))] (by simp only [go_sem, seval, ah_, aa_]; rfl) ?_ ?_)
   ·first | trivial | simp
   refine .seq (.seq (.rgn [] (by simp only [go_sem, seval, ah_, aa_]; rfl) ?_ ?_))
   ·first | trivial | simp
   refine .condB (by simp only [go_sem, seval, ah_, aa_]; rfl) (by simp only [go_sem, seval, ah_, aa_]) (fun h26 => ?_) (fun h26 => ?_)
   ·refine .seq (.rgn [] (by simp only [go_sem, seval, ah_, aa_]; rfl) ?_ ?_)
    ·first | trivial | simp
    refine .ret ⟨.inr rfl, ?_⟩
    exact Out.plain (by simp only [Tryz.results156]; rfl) (by simp only [aw_, a3_, go_sem, seval, ah_, aa_] <;> (split <;> rfl)) (by simp only [a2_, go_sem, seval, ah_, aa_] <;> (rw [R2 (by simpa using h19), if_pos (by simpa using h26)])) (by simp only [go_sem, seval, ah_, aa_])
   ·refine .skip (.seq (.rgn [a4_ (km_ (M.getD (dh_ N e.s).toNat 0))] (by simp only [go_sem, seval, ah_, aa_, g8_ (show (dh_ N e.s).toNat < M.length by simp at h26; omega)]; rfl) ?_ ?_))
    ·simp at h26; (try simp); omega
    refine .ret ⟨.inr rfl, ?_⟩
    exact Out.plain (by simp only [Tryz.results156]; rfl) (by simp only [aw_, a3_, go_sem, seval, ah_, aa_] <;> (split <;> rfl)) (by simp only [a2_, go_sem, seval, ah_, aa_] <;> (rw [R2 (by simpa using h19), if_neg (by simpa using h26)])) (by simp only [go_sem, seval, ah_, aa_])
  ·refine .seq (.rgn [] (by simp only [go_sem, seval, ah_, aa_]; rfl) ?_ ?_)
   ·first | trivial | simp
   refine .condB (by simp only [go_sem, seval, ah_, aa_]; rfl) (by simp only [go_sem, seval, ah_, aa_]) (fun h32 => ?_) (fun h32 => ?_)
   ·refine .seq (.rgn [a4_ (ih (e.kids.getD 0 E0) N M (g4 (by simpa using h32)).2 hl hn)] (by simp only [go_sem, seval, ah_, aa_, b4_ (show 0 < e.kids.length by have := g4 (by simpa using h32); omega)]; rfl) ?_ ?_)
    ·have := g4 (by simpa using h32); simp; omega
    refine .ret ⟨.inr rfl, ?_⟩
    exact Out.plain (by simp only [Tryz.results156]; rfl) (by simp only [aw_, a3_, go_sem, seval, ah_, aa_] <;> (split <;> rfl)) (by simp only [a2_, go_sem, seval, ah_, aa_] <;> (rw [R4 (by simpa using h32)])) (by simp only [go_sem, seval, ah_, aa_])
   ·refine .skip (.seq (.rgn [a4_ (ih (e.kids.getD 0 E0) N M (g3 (g0 (by simpa using h15) (by simpa using h19) (by simpa using h32))).2.1 hl hn)] (by simp only [go_sem, seval, ah_, aa_, b4_ (show 0 < e.kids.length by have := g3 (g0 (by simpa using h15) (by simpa using h19) (by simpa using h32)); omega)]; rfl) ?_ ?_))
    ·have := g3 (g0 (by simpa using h15) (by simpa using h19) (by simpa using h32)); simp; omega
    refine .seq (.rgn [a4_ (ih (e.kids.getD 1 E0) N M (g3 (g0 (by simpa using h15) (by simpa using h19) (by simpa using h32))).2.2.1 hl hn)] (by simp only [go_sem, seval, ah_, aa_, b4_ (show 1 < e.kids.length by have := g3 (g0 (by simpa using h15) (by simpa using h19) (by simpa using h32)); omega)]; rfl) ?_ ?_)
    ·have := g3 (g0 (by simpa using h15) (by simpa using h19) (by simpa using h32)); simp; omega
    refine .seq (.seq (.rgn [] (by simp only [go_sem, seval, ah_, aa_]; rfl) ?_ ?_))
    ·first | trivial | simp
    refine .condB (by simp only [go_sem, seval, ah_, aa_]; rfl) (by simp only [go_sem, seval, ah_, aa_]) (fun h68 => ?_) (fun h68 => ?_)
    ·refine .seq (.rgn [] (by simp only [go_sem, seval, ah_, aa_]; rfl) ?_ ?_)
     ·first | trivial | simp
     refine .ret ⟨.inr rfl, ?_⟩
     exact Out.plain (by simp only [Tryz.results156]; rfl) (by simp only [aw_, a3_, go_sem, seval, ah_, aa_] <;> (split <;> rfl)) (by simp only [a2_, go_sem, seval, ah_, aa_] <;> (rw [R3 (g0 (by simpa using h15) (by simpa using h19) (by simpa using h32))]; simp at h68; (rcases h68 with h | h <;> simp [gk_, h]))) (by simp only [go_sem, seval, ah_, aa_])
    ·refine .skip (.seq (.rgn [a4_ (u6_ e.s (rk (e.kids.getD 0 E0) N M).1 (rk (e.kids.getD 1 E0) N M).1 (Q (g0 (by simpa using h15) (by simpa using h19) (by simpa using h32))).1 (Q (g0 (by simpa using h15) (by simpa using h19) (by simpa using h32))).2)] (by simp only [go_sem, seval, ah_, aa_]; rfl) ?_ ?_))
     ·first | trivial | simp
     refine .ret ⟨.inr rfl, ?_⟩
     exact Out.plain (by simp only [Tryz.results156]; rfl) (by simp only [aw_, a3_, go_sem, seval, ah_, aa_] <;> (split <;> rfl)) (by simp only [a2_, go_sem, seval, ah_, aa_] <;> (rw [R3 (g0 (by simpa using h15) (by simpa using h19) (by simpa using h32))]; simp at h68; simp [gk_, h68])) (by simp only [go_sem, seval, ah_, aa_])
end
section
set_option maxRecDepth 100000
set_option maxHeartbeats 4000000
def bLR (l : List Bl) : List (List V) := l.map bC
theorem ad_ (l : List Bl) : (bLR l).length = l.length := by simp [bLR]
theorem um_ (b : Bl) : b3_ (bC b) = true := by rw [ae_]; simp only [b3_, V.pure, dy_, Bool.and_self]
theorem ab_ (l : List Bl) : br_ (bLR l) = true := d7_.2 fun r hr => by obtain ⟨s, _, rfl⟩ := List.mem_map.1 hr; exact um_ s
theorem fq_ {l : List Bl} {k : Nat} (h : k < l.length) : (bLR l).getD k [] = bC (l.getD k B0) := by
 simp [bLR, T8_, T6_ h]
theorem va_ (b : Bl) : (bC b).length = 10 := by rw [ae_]; rfl
theorem lk_ (l : List Bl) : (∀ r, r ∈ bLR l → r.length = 10) = True := eq_true fun r hr => by obtain ⟨s, _, rfl⟩ := List.mem_map.1 hr; exact va_ s
theorem g1_ (a b : List Bl) : bLR (a ++ b) = bLR a ++ bLR b := by simp [bLR]
def e3_ (l : List Bl) : Bool := l.all smb
theorem kd_ {l : List Bl} (h : e3_ l = true) {k : Nat} (hk : k < l.length) : smb (l.getD k B0) = true := List.all_eq_true.1 h _ (ba_ hk)
theorem nh_ (b : Bl) (hs : smb b = true) : ACall En 58 [.ag (bC b)] [] [.b (!bok b)] [] := by
 refine ap_ (fn := Tryz.f58) [] Tryz.func58 rfl rfl (by simp) fun C => ?_
 rw [ay_]
 simp only [Tryz.ntmps58, T7_, List.length_nil, Nat.reduceAdd, Nat.reduceSub, List.replicate_succ, List.replicate_zero, List.cons_append, List.nil_append, bl_]
 refine .seq (.rgn [] (by simp only [go_sem, seval, ae_]; rfl) ?_ ?_)
 ·first | trivial | simp
 refine .seq (.rgn [a4_ (pg_ b hs)] (by simp only [go_sem, seval, ae_]; rfl) ?_ ?_)
 ·first | trivial | simp
 refine .ret ⟨.inr rfl, ?_⟩
 exact Out.plain (by simp only [Tryz.results58]; rfl) (by simp only [aw_, a3_, go_sem, seval, ae_] <;> (split <;> rfl)) (by simp only [a2_, go_sem, seval, ae_] <;> (rfl)) (by simp only [go_sem, seval, ae_])
theorem ti_ (l : List Bl) (hs : e3_ l = true) (hl : l.length < 4611686018427387904) : ACall En 108 [.sl false (bLR l), .fn (.func 58) [] []] [] [.i .i64 (nl_ (fun s => !bok s) l)] [] := by
 refine ap_ (fn := Tryz.f108) [] Tryz.func108 rfl rfl (by simp) fun C => ?_
 rw [ay_]
 simp only [Tryz.ntmps108, T7_, List.length_nil, Nat.reduceAdd, Nat.reduceSub, List.replicate_succ, List.replicate_zero, List.cons_append, List.nil_append, bl_]
 refine .seq (.rgn [] (by simp only [go_sem, seval, ad_, ab_, ae_]; rfl) ?_ ?_)
 ·first | trivial | simp
 refine .seq (.seq (.rgn [] (by simp only [go_sem, seval, ad_, ab_, ae_]; rfl) ?_ ?_))
 ·first | trivial | simp
 refine .block (.loopK (fun k : Nat => ⟨[.sl false (bLR l), .fn (.func 58) [] [], .no, .no, .no, .no, .no, .i .i64 l.length, .i .i64 k, .no, .no, .no, .no, .no, .no, .no, .no, .no, .no], a1_ [], us []⟩) (fun k : Nat => k ≤ l.length ∧ (l.take k).any (fun s => !bok s) = false) (fun k : Nat => l.length - k) (0) ?_ ?_ (fun k hI => ?_))
 ·simp
 ·exact Can.weak (Weak.lit (by simp only [go_sem, seval, ad_, ab_, ae_, au_, leV, as_, at_, V.inn, us, T9_, Ta_] <;> (simp)) (by simp only [go_sem, seval, ad_, ab_, ae_, au_, leV, as_, at_, V.inn, us, T9_, Ta_]) (by simp only [go_sem, seval, ad_, ab_, ae_, au_, leV, as_, at_, V.inn, us, T9_, Ta_]))
 refine .seq (.rgn [] (by simp only [go_sem, seval, ad_, ab_, ae_]; rfl) ?_ ?_)
 ·first | trivial | simp
 refine .seq (.condB (by simp only [go_sem, seval, ad_, ab_, ae_]; rfl) (by simp only [go_sem, seval, ad_, ab_, ae_]) (fun h9 => ?_) (fun h9 => ?_))
 ·refine .skip (.seq (.block (.seq (.rgn [] (by simp only [go_sem, seval, ad_, ab_, ae_]; rfl) ?_ ?_))))
  ·first | trivial | simp
  refine .seq (.rgn [eu_ (k < l.length) (fun h => nh_ (l.getD k B0) (kd_ hs h))] (by simp only [go_sem, seval, ad_, ab_, ae_, fq_ (show k < l.length by simpa using h9)]; rfl) ?_ ?_)
  ·simp only [T3_] at h9; simp; omega
  refine .condB (by simp only [go_sem, seval, ad_, ab_, ae_]; rfl) (by simp only [go_sem, seval, ad_, ab_, ae_]) (fun h16 => ?_) (fun h16 => ?_)
  ·refine .seq (.rgn [] (by simp only [go_sem, seval, ad_, ab_, ae_]; rfl) ?_ ?_)
   ·first | trivial | simp
   refine .ret ⟨.inr rfl, ?_⟩
   exact Out.plain (by simp only [Tryz.results108]; rfl) (by simp only [aw_, a3_, go_sem, seval, ad_, ab_, ae_] <;> (split <;> rfl)) (by simp only [a2_, go_sem, seval, ad_, ab_, ae_] <;> (simp at h9; rw [tg_ (d := B0) h9 hI.2 h16])) (by simp only [go_sem, seval, ad_, ab_, ae_])
  ·refine .skip (.rgn [] (by simp only [go_sem, seval, ad_, ab_, ae_]; rfl) ?_ ?_)
   ·first | trivial | simp
   refine Exists.intro (k + 1) ⟨?_, ?_, ?_⟩
   ·simp at h9; refine ⟨by omega, ?_⟩; rw [hy_ (d := B0) h9, hI.2, h16]; rfl
   ·simp at h9; omega
   exact Can.weak (Weak.lit (by simp only [go_sem, seval, ad_, ab_, ae_, au_, leV, as_, at_, V.inn, us, T9_, Ta_] <;> (rw [a8_ (by omega) (by omega)]; simp)) (by simp only [go_sem, seval, ad_, ab_, ae_, au_, leV, as_, at_, V.inn, us, T9_, Ta_]) (by simp only [go_sem, seval, ad_, ab_, ae_, au_, leV, as_, at_, V.inn, us, T9_, Ta_]))
 ·refine .exit (.seq (.rgn [] (by simp only [go_sem, seval, ad_, ab_, ae_]; rfl) ?_ ?_))
  ·first | trivial | simp
  refine .ret ⟨.inr rfl, ?_⟩
  exact Out.plain (by simp only [Tryz.results108]; rfl) (by simp only [aw_, a3_, go_sem, seval, ad_, ab_, ae_] <;> (split <;> rfl)) (by simp only [a2_, go_sem, seval, ad_, ab_, ae_] <;> (simp at h9; have h0 := hI.2; rw [T1_ h9] at h0; rw [po_ h0])) (by simp only [go_sem, seval, ad_, ab_, ae_])
theorem kp_ (l : List Bl) (hs : e3_ l = true) (hl : l.length < 4611686018427387904) : ACall En 57 [.sl false (bLR l), .fn (.func 58) [] []] [] [.b (l.any fun s => !bok s)] [] := by
 refine ap_ (fn := Tryz.f57) [] Tryz.func57 rfl rfl (by simp) fun C => ?_
 rw [ay_]
 simp only [Tryz.ntmps57, T7_, List.length_nil, Nat.reduceAdd, Nat.reduceSub, List.replicate_succ, List.replicate_zero, List.cons_append, List.nil_append, bl_]
 refine .seq (.rgn [] (by simp only [go_sem, seval, ab_]; rfl) ?_ ?_)
 ·first | trivial | simp
 refine .seq (.rgn [a4_ (ti_ l hs hl)] (by simp only [go_sem, seval, ab_]; rfl) ?_ ?_)
 ·first | trivial | simp
 refine .ret ⟨.inr rfl, ?_⟩
 exact Out.plain (by simp only [Tryz.results57]; rfl) (by simp only [aw_, a3_, go_sem, seval, ab_] <;> (split <;> rfl)) (by simp only [a2_, go_sem, seval, ab_] <;> (rw [ub_])) (by simp only [go_sem, seval, ab_])
theorem u8_ (l : List Bl) : (l.any fun s => !bok s) = !l.all bok := by rw [List.any_eq_not_all_not]; simp
theorem b2_ {l : List Bl} (h : lok l = true) : 1 ≤ l.length ∧ l.length ≤ 16 ∧ ∀ k, k < l.length → bok (l.getD k B0) = true := by
 simp only [lok, T5_, T3_, List.all_eq_true] at h
 exact ⟨h.1.1, h.1.2, fun k hk => h.2 _ (ba_ hk)⟩
theorem l6_ {b : Bl} (h : bok b = true) (k : ¬ b.kind = 0) : eok b.expr = true := by
 have h0 : ca_ b = true := by simp only [bok, T5_] at h; exact h.1
 unfold ca_ at h0
 by_cases k1 : b.kind = 1
 ·simp [k1] at h0; exact df_ h0.1.2
 by_cases k2 : b.kind = 2
 ·simp [k2] at h0; exact df_ h0.1.2
 by_cases k3 : b.kind = 3
 ·simp [k3] at h0; exact df_ h0.1.2
 ·simp [k, k1, k2, k3] at h0
theorem oz_ {b : Bl} (h : bok b = true) (k : b.kind = 3) : eok b.thn = true := by
 have h0 : ca_ b = true := by simp only [bok, T5_] at h; exact h.1
 unfold ca_ at h0
 simp [k] at h0; exact df_ h0.2
theorem rd_ {b : Bl} (h : bok b = true) : b.kind = 0 ∨ b.kind = 1 ∨ b.kind = 2 ∨ b.kind = 3 := by
 have h0 : ca_ b = true := by simp only [bok, T5_] at h; exact h.1
 unfold ca_ at h0
 by_cases k0 : b.kind = 0
 ·exact .inl k0
 by_cases k1 : b.kind = 1
 ·exact .inr (.inl k1)
 by_cases k2 : b.kind = 2
 ·exact .inr (.inr (.inl k2))
 by_cases k3 : b.kind = 3
 ·exact .inr (.inr (.inr k3))
 ·simp [k0, k1, k2, k3] at h0
theorem px_ {r : Rs} {b : Bl} (k : b.kind = 0) : cc_ r b = r := by unfold cc_; split <;> simp_all
theorem pp_ {r : Rs} {b : Bl} (h : r.ok = true) (k : ¬ b.kind = 0) (h2 : (co_ b r.names r.nums).2.2 = false) : cc_ r b = { r with ok := false } := by simp [cc_, h, k, h2]
theorem qy_ {r : Rs} {b : Bl} (h : r.ok = true) (k : b.kind = 1) (h2 : (co_ b r.names r.nums).2.2 = true) : cc_ r b = { r with names := r.names ++ [b.name], nums := r.nums ++ [(rk b.expr r.names r.nums).1] } := by
 have : (co_ b r.names r.nums).1 = (rk b.expr r.names r.nums).1 := by unfold co_; split <;> rfl
 simp [cc_, h, k, h2, this]
theorem o1_ {r : Rs} {b : Bl} (h : r.ok = true) (k : ¬ b.kind = 0) (k1 : ¬ b.kind = 1) (h2 : (co_ b r.names r.nums).2.2 = true) (h3 : b.kind = 2 ∨ ¬ (rk b.expr r.names r.nums).1 = 0) : cc_ r b = { r with said := r.said ++ [(co_ b r.names r.nums).2.1] } := by
 have e : (co_ b r.names r.nums).1 = (rk b.expr r.names r.nums).1 := by unfold co_; split <;> rfl
 unfold cc_
 rw [if_neg (by simp [h]), if_neg k, if_neg (by simp [h2]), if_neg k1, if_pos (by rw [e]; exact h3)]
theorem pc_ {r : Rs} {b : Bl} (h : r.ok = true) (k : ¬ b.kind = 0) (k1 : ¬ b.kind = 1) (h2 : (co_ b r.names r.nums).2.2 = true) (h3 : ¬ b.kind = 2) (h4 : (rk b.expr r.names r.nums).1 = 0) : cc_ r b = r := by
 have e : (co_ b r.names r.nums).1 = (rk b.expr r.names r.nums).1 := by unfold co_; split <;> rfl
 unfold cc_
 rw [if_neg (by simp [h]), if_neg k, if_neg (by simp [h2]), if_neg k1, if_neg (by rw [e]; simp [h3, h4])]
theorem d5_ (l : List Int) (n : Int) : inR (l ++ [n]) = inR l ++ [[.i .i64 n]] := by rw [sx_]; rfl
theorem hu_ (l : List Str) (s : Str) : bn_ (l ++ [s]) = bn_ l ++ [[.s s]] := by rw [qw_]; rfl
theorem i1_ (l : List Int) (n : Nat) (hn : n = l.length) (hl : l.length < 1099511627776) : ACall En 60 [.ow 0 1 0 n] [⟨3, 1, inR l⟩] [.ow 0 1 0 n] [⟨3, 1, inR l⟩] := by
 refine ap_ (fn := Tryz.f60) [0] Tryz.func60 rfl rfl (by simp) fun C => ?_
 rw [ay_]
 simp only [Tryz.ntmps60, T7_, List.length_nil, Nat.reduceAdd, Nat.reduceSub, List.replicate_succ, List.replicate_zero, List.cons_append, List.nil_append, bl_]
 refine .seq (.rgn [] (by simp only [go_sem, seval, aa_]; rfl) ?_ ?_)
 ·subst hn; simp [ah_]
 refine .seq (.rgn [] (by simp only [go_sem, seval, aa_]; rfl) ?_ ?_)
 ·subst hn; simp [ah_]
 refine .ret ⟨.inr rfl, ?_⟩
 exact Out.mem' (by simp only [Tryz.results60]; rfl) (by simp only [aw_, a3_, go_sem, seval, aa_]) (by simp only [a2_, rns, rn, go_sem, seval, aa_] <;> (simp)) (by simp) rfl (by decide) (by simp only [go_sem, seval, aa_]) (by simp only [aq_, go_sem, seval, aa_]) (by simp only [ak_, go_sem, seval, aa_] <;> (simp [bv_, aa_]))
theorem cd_ {l : List Bl} {k : Nat} (hk : k ≤ l.length) (h16 : l.length ≤ 16) : (bf_ (l.take k)).names.length = (bf_ (l.take k)).nums.length ∧ (bf_ (l.take k)).names.length ≤ 16 ∧ (bf_ (l.take k)).said.length ≤ 16 := by
 have := lr_ l k hk; omega
theorem dn_ {l : List Bl} {k : Nat} (hk : k < l.length) (h : (l.getD k B0).kind = 0) : bf_ (l.take (k + 1)) = bf_ (l.take k) := by rw [do_ hk, px_ h]
theorem eb_ {l : List Bl} {k : Nat} (hk : k < l.length) (h : (bf_ (l.take k)).ok = true) (h1 : (l.getD k B0).kind = 1) (h2 : (co_ (l.getD k B0) (bf_ (l.take k)).names (bf_ (l.take k)).nums).2.2 = true) :
  bf_ (l.take (k + 1)) = { bf_ (l.take k) with names := (bf_ (l.take k)).names ++ [(l.getD k B0).name], nums := (bf_ (l.take k)).nums ++ [(rk (l.getD k B0).expr (bf_ (l.take k)).names (bf_ (l.take k)).nums).1] } := by rw [do_ hk, qy_ h h1 h2]
theorem cx_ {l : List Bl} {k : Nat} (hk : k < l.length) (h : (bf_ (l.take k)).ok = true) (h0 : ¬ (l.getD k B0).kind = 0) (h1 : ¬ (l.getD k B0).kind = 1) (h2 : (co_ (l.getD k B0) (bf_ (l.take k)).names (bf_ (l.take k)).nums).2.2 = true) (h3 : (l.getD k B0).kind = 2 ∨ ¬ (rk (l.getD k B0).expr (bf_ (l.take k)).names (bf_ (l.take k)).nums).1 = 0) :
  bf_ (l.take (k + 1)) = { bf_ (l.take k) with said := (bf_ (l.take k)).said ++ [(co_ (l.getD k B0) (bf_ (l.take k)).names (bf_ (l.take k)).nums).2.1] } := by rw [do_ hk, o1_ h h0 h1 h2 h3]
theorem dp_ {l : List Bl} {k : Nat} (hk : k < l.length) (h : (bf_ (l.take k)).ok = true) (h0 : ¬ (l.getD k B0).kind = 0) (h1 : ¬ (l.getD k B0).kind = 1) (h2 : (co_ (l.getD k B0) (bf_ (l.take k)).names (bf_ (l.take k)).nums).2.2 = true) (h3 : ¬ (l.getD k B0).kind = 2) (h4 : (rk (l.getD k B0).expr (bf_ (l.take k)).names (bf_ (l.take k)).nums).1 = 0) :
  bf_ (l.take (k + 1)) = bf_ (l.take k) := by rw [do_ hk, pc_ h h0 h1 h2 h3 h4]
theorem e1_ {l : List Bl} {k : Nat} (hl : lok l = true) (hk : k < l.length) (h : (bf_ (l.take k)).ok = true) (h0 : ¬ (l.getD k B0).kind = 0) (h2 : (co_ (l.getD k B0) (bf_ (l.take k)).names (bf_ (l.take k)).nums).2.2 = false) : bw_ l = ((bf_ (l.take k)).said, false) := by
 have e := do_ hk
 rw [pp_ h h0 h2] at e
 have e2 := o8_ (l := l) (k := k + 1) (by omega) (by rw [e])
 unfold bw_; rw [if_pos hl, e2, e]
theorem ft_ {l : List Bl} {k : Nat} (hl : lok l = true) (hk : l.length ≤ k) (h : (bf_ (l.take k)).ok = true) : bw_ l = ((bf_ (l.take k)).said, true) := by
 rw [T1_ hk] at h ⊢
 unfold bw_; rw [if_pos hl, h]
theorem eo_ {l : List Bl} (h : lok l = false) : bw_ l = ([], false) := by unfold bw_; rw [h]; rfl
theorem nq_ (l : List Bl) : lok l = !(!(decide ((1 : Int) ≤ l.length) && decide ((l.length : Int) ≤ 16)) || l.any fun s => !bok s) := by
 rw [u8_]; simp only [lok, Bool.not_or, Bool.not_not, d6_]; rfl
theorem lc_ (l : List Bl) (hs : e3_ l = true) (hl : l.length < 4611686018427387904) : ACall En 13 [.sl false (bLR l)] [] [.ow 0 1 0 (bw_ l).1.length, .b (bw_ l).2] [⟨3, 1, inR (bw_ l).1⟩] := by
 have F1 : ∀ k, lok l = true → k < l.length → ¬ (l.getD k B0).kind = 0 → form (l.getD k B0).expr ((5 : Nat) : Int) = true := fun k h hk hk0 => b6_ (l6_ ((b2_ h).2.2 k hk) hk0)
 have F2 : ∀ k, lok l = true → k < l.length → (l.getD k B0).kind = 3 → form (l.getD k B0).thn ((5 : Nat) : Int) = true := fun k h hk hk0 => b6_ (oz_ ((b2_ h).2.2 k hk) hk0)
 refine ap_ (fn := Tryz.f13) [22] Tryz.func13 rfl rfl (by simp) fun C => ?_
 rw [ay_]
 simp only [Tryz.ntmps13, T7_, List.length_nil, Nat.reduceAdd, Nat.reduceSub, List.replicate_succ, List.replicate_zero, List.cons_append, List.nil_append, bl_]
 refine .seq (.rgn [] (by simp only [go_sem, seval, ad_, ab_, ah_, aa_, ae_]; rfl) ?_ ?_)
 ·first | trivial | simp
 refine .seq (.seq (.rgn [a4_ (vx_ l.length 1 16), a4_ (kp_ l hs hl)] (by simp only [go_sem, seval, ad_, ab_, ah_, aa_, ae_]; rfl) ?_ ?_))
 ·first | trivial | simp
 refine .condB (by simp only [go_sem, seval, ad_, ab_, ah_, aa_, ae_]; rfl) (by simp only [go_sem, seval, ad_, ab_, ah_, aa_, ae_]) (fun h19 => ?_) (fun h19 => ?_)
 ·refine .seq (.rgn [] (by simp only [go_sem, seval, ad_, ab_, ah_, aa_, ae_]; rfl) ?_ ?_)
  ·first | trivial | simp
  refine .can (Can.ownSlot 2 22 3 1 (by simp only [go_sem, seval, ad_, ab_, ah_, aa_, ae_] <;> rfl) (by simp only [go_sem, seval, ad_, ab_, ah_, aa_, ae_]) (by simp only [go_sem, seval, ad_, ab_, ah_, aa_, ae_] <;> rfl)) ?_
  refine .ret ⟨.inr rfl, ?_⟩
  exact Out.mem' (by simp only [Tryz.results13]; rfl) (by simp only [aw_, a3_, go_sem, seval, ad_, ab_, ah_, aa_, ae_]) (by simp only [a2_, rns, rn, go_sem, seval, ad_, ab_, ah_, aa_, ae_] <;> (rw [eo_ (by rw [nq_, h19]; rfl)]; try simp)) (by simp) rfl (by decide) (by simp only [go_sem, seval, ad_, ab_, ah_, aa_, ae_]) (by simp only [aq_, go_sem, seval, ad_, ab_, ah_, aa_, ae_]) (by simp only [ak_, go_sem, seval, ad_, ab_, ah_, aa_, ae_] <;> (rw [eo_ (by rw [nq_, h19]; rfl)]; simp [inR]))
 ·refine .skip (.seq (.rgn [] (by simp only [go_sem, seval, ad_, ab_, ah_, aa_, ae_]; rfl) ?_ ?_))
  ·first | trivial | simp
  refine .seq (.rgn [] (by simp only [go_sem, seval, ad_, ab_, ah_, aa_, ae_]; rfl) ?_ ?_)
  ·first | trivial | simp
  refine .seq (.seq (.rgn [] (by simp only [go_sem, seval, ad_, ab_, ah_, aa_, ae_]; rfl) ?_ ?_))
  ·first | trivial | simp
  refine .block (.loopK (fun k : Nat => ⟨[.sl false (bLR l), .no, .no, .no, .ow 20 1 0 (bf_ (l.take k)).names.length, .ow 21 1 0 (bf_ (l.take k)).nums.length, .ow 22 1 0 (bf_ (l.take k)).said.length, .no, .no, .no, .no, .no, .no, .no, .no, .no, .no, .no, .no, .no, .sl false (bLR l), .i .i64 l.length, .i .i64 k, .no, .no, .no, .no, .no, .no, .no, .no, .no, .no, .no, .no, .no, .no, .no, .no, .no, .no, .no, .no, .no, .no, .no, .no, .no, .no, .no, .no, .no, .no, .no, .no, .no, .no, .no, .no, .no, .no, .no, .no, .no, .no, .no, .no, .no, .no, .no, .no, .no, .no, .no, .no, .no, .no, .no, .no, .no, .no, .no], a1_ [(20, ⟨9, 1, bn_ (bf_ (l.take k)).names⟩), (21, ⟨3, 1, inR (bf_ (l.take k)).nums⟩), (22, ⟨3, 1, inR (bf_ (l.take k)).said⟩)], us [20, 21, 22]⟩) (fun k : Nat => k ≤ l.length ∧ (bf_ (l.take k)).ok = true ∧ lok l = true) (fun k : Nat => l.length - k) (0) ?_ ?_ (fun k hI => ?_))
  ·exact ⟨Nat.zero_le _, by simp [bf_], by rw [nq_, h19]; rfl⟩
  ·refine Can.trans (Can.ownSlot 4 20 9 1 (by simp only [go_sem, seval, ad_, ab_, ah_, aa_, ae_] <;> rfl) (by simp only [go_sem, seval, ad_, ab_, ah_, aa_, ae_]) (by simp only [go_sem, seval, ad_, ab_, ah_, aa_, ae_] <;> rfl)) ?_
   refine Can.trans (Can.ownSlot 5 21 3 1 (by simp only [go_sem, seval, ad_, ab_, ah_, aa_, ae_] <;> rfl) (by simp only [go_sem, seval, ad_, ab_, ah_, aa_, ae_]) (by simp only [go_sem, seval, ad_, ab_, ah_, aa_, ae_] <;> rfl)) ?_
   refine Can.trans (Can.ownSlot 6 22 3 1 (by simp only [go_sem, seval, ad_, ab_, ah_, aa_, ae_] <;> rfl) (by simp only [go_sem, seval, ad_, ab_, ah_, aa_, ae_]) (by simp only [go_sem, seval, ad_, ab_, ah_, aa_, ae_] <;> rfl)) ?_
   exact Can.weak (Weak.lit (by simp only [go_sem, seval, ad_, ab_, ah_, aa_, ae_, au_, leV, as_, at_, V.inn, us, T9_, Ta_] <;> (simp [bf_])) (by simp only [go_sem, seval, ad_, ab_, ah_, aa_, ae_, au_, leV, as_, at_, V.inn, us, T9_, Ta_]) (by simp only [go_sem, seval, ad_, ab_, ah_, aa_, ae_, au_, leV, as_, at_, V.inn, us, T9_, Ta_] <;> (simp [bf_, bn_, inR])))
  refine .seq (.rgn [] (by simp only [go_sem, seval, ad_, ab_, ah_, aa_, ae_]; rfl) ?_ ?_)
  ·first | trivial | simp
  refine .seq (.condB (by simp only [go_sem, seval, ad_, ab_, ah_, aa_, ae_]; rfl) (by simp only [go_sem, seval, ad_, ab_, ah_, aa_, ae_]) (fun h23 => ?_) (fun h23 => ?_))
  ·refine .skip (.seq (.block (.seq (.rgn [] (by simp only [go_sem, seval, ad_, ab_, ah_, aa_, ae_, fq_ (show k < l.length by simpa using h23), ae_]; rfl) ?_ ?_))))
   ·simp at h23; simp; omega
   refine .seq (.seq (.rgn [] (by simp only [go_sem, seval, ad_, ab_, ah_, aa_, ae_]; rfl) ?_ ?_))
   ·first | trivial | simp
   refine .condB (by simp only [go_sem, seval, ad_, ab_, ah_, aa_, ae_]; rfl) (by simp only [go_sem, seval, ad_, ab_, ah_, aa_, ae_]) (fun h28 => ?_) (fun h28 => ?_)
   ·refine .exit (.rgn [] (by simp only [go_sem, seval, ad_, ab_, ah_, aa_, ae_]; rfl) ?_ ?_)
    ·first | trivial | simp
    refine Exists.intro (k + 1) ⟨?_, ?_, ?_⟩
    ·have hk : k < l.length := (by simpa using h23); have e := dn_ hk (by simpa using h28); exact ⟨by omega, by rw [e]; exact hI.2.1, hI.2.2⟩
    ·simp at h23; omega
    exact Can.weak (Weak.lit (by simp only [go_sem, seval, ad_, ab_, ah_, aa_, ae_, au_, leV, as_, at_, V.inn, us, T9_, Ta_] <;> ((have hk : k < l.length := (by simpa using h23)); (have e := dn_ hk (by simpa using h28)); rw [e, a8_ (by omega) (by omega)]; simp)) (by simp only [go_sem, seval, ad_, ab_, ah_, aa_, ae_, au_, leV, as_, at_, V.inn, us, T9_, Ta_]) (by simp only [go_sem, seval, ad_, ab_, ah_, aa_, ae_, au_, leV, as_, at_, V.inn, us, T9_, Ta_] <;> ((have hk : k < l.length := (by simpa using h23)); (have e := dn_ hk (by simpa using h28)); rw [e]; simp)))
   ·refine .skip (.seq (.rgn [k1_ (kz_ 5 (l.getD k B0).expr (bf_ (l.take k)).names (bf_ (l.take k)).nums (F1 k hI.2.2 (by simpa using h23) (by simpa using h28)) (cd_ hI.1 (b2_ hI.2.2).2.1).1 (by have := (cd_ hI.1 (b2_ hI.2.2).2.1).2.1; omega))] (by simp only [go_sem, seval, ad_, ab_, ah_, aa_, ae_]; rfl) ?_ ?_))
    ·(first | (simp [T1_, am_, ah_, bq_]; done))
    refine .seq (.rgn [] (by simp only [go_sem, seval, ad_, ab_, ah_, aa_, ae_]; rfl) ?_ ?_)
    ·first | trivial | simp
    refine .seqJ (fun q : Int × Bool => ⟨[.sl false (bLR l), .no, .no, .no, .ow 20 1 0 (bf_ (l.take k)).names.length, .ow 21 1 0 (bf_ (l.take k)).nums.length, .ow 22 1 0 (bf_ (l.take k)).said.length, .no, .pt 18 10 0 0, .i .i64 (rk (l.getD k B0).expr (bf_ (l.take k)).names (bf_ (l.take k)).nums).1, .b q.2, .i .i64 q.1, .no, .no, .no, .no, .no, .no, .no, .no, .sl false (bLR l), .i .i64 l.length, .i .i64 k, .no, .no, .no, .no, .no, .no, .no, .no, .no, .no, .no, .no, .no, .no, .no, .no, .no, .no, .no, .no, .no, .no, .no, .no, .no, .no, .no, .no, .no, .no, .no, .no, .no, .no, .no, .no, .no, .no, .no, .no, .no, .no, .no, .no, .no, .no, .no, .no, .no, .no, .no, .no, .no, .no, .no, .no, .no, .no, .no], a1_ [(18, ⟨35, 10, [bC (l.getD k B0)]⟩), (20, ⟨9, 1, bn_ (bf_ (l.take k)).names⟩), (21, ⟨3, 1, inR (bf_ (l.take k)).nums⟩), (22, ⟨3, 1, inR (bf_ (l.take k)).said⟩)], us [20, 21, 22, 18]⟩) (fun q : Int × Bool => q = ((co_ (l.getD k B0) (bf_ (l.take k)).names (bf_ (l.take k)).nums).2.1, (co_ (l.getD k B0) (bf_ (l.take k)).names (bf_ (l.take k)).nums).2.2)) ?_ (fun q hJ => ?_)
    ·refine .seq (.rgn [] (by simp only [go_sem, seval, ad_, ab_, ah_, aa_, ae_]; rfl) ?_ ?_)
     ·first | trivial | simp
     refine .condB (by simp only [go_sem, seval, ad_, ab_, ah_, aa_, ae_]; rfl) (by simp only [go_sem, seval, ad_, ab_, ah_, aa_, ae_]) (fun h43 => ?_) (fun h43 => ?_)
     ·refine .rgn [k1_ (kz_ 5 (l.getD k B0).thn (bf_ (l.take k)).names (bf_ (l.take k)).nums (F2 k hI.2.2 (by simpa using h23) (by simp at h43; exact h43.2)) (cd_ hI.1 (b2_ hI.2.2).2.1).1 (by have := (cd_ hI.1 (b2_ hI.2.2).2.1).2.1; omega))] (by simp only [go_sem, seval, ad_, ab_, ah_, aa_, ae_]; rfl) ?_ ?_
      ·(first | (simp [T1_, am_, ah_, bq_]; done))
      refine Exists.intro (((rk (l.getD k B0).thn (bf_ (l.take k)).names (bf_ (l.take k)).nums).1, (rk (l.getD k B0).thn (bf_ (l.take k)).names (bf_ (l.take k)).nums).2)) ⟨?_, ?_⟩
      ·unfold co_; first | (rw [if_pos (by simp at h43 ⊢; exact h43)]; done) | (rw [if_neg (by simp at h43 ⊢; exact h43)]; done)
      exact Can.weak (Weak.lit (by simp only [go_sem, seval, ad_, ab_, ah_, aa_, ae_, au_, leV, as_, at_, V.inn, us, T9_, Ta_]) (by simp only [go_sem, seval, ad_, ab_, ah_, aa_, ae_, au_, leV, as_, at_, V.inn, us, T9_, Ta_]) (by simp only [go_sem, seval, ad_, ab_, ah_, aa_, ae_, au_, leV, as_, at_, V.inn, us, T9_, Ta_]))
     ·refine .skip ?_
      refine Exists.intro (((rk (l.getD k B0).expr (bf_ (l.take k)).names (bf_ (l.take k)).nums).1, (rk (l.getD k B0).expr (bf_ (l.take k)).names (bf_ (l.take k)).nums).2)) ⟨?_, ?_⟩
      ·unfold co_; first | (rw [if_pos (by simp at h43 ⊢; exact h43)]; done) | (rw [if_neg (by simp at h43 ⊢; exact h43)]; done)
      exact Can.weak (Weak.lit (by simp only [go_sem, seval, ad_, ab_, ah_, aa_, ae_, au_, leV, as_, at_, V.inn, us, T9_, Ta_]) (by simp only [go_sem, seval, ad_, ab_, ah_, aa_, ae_, au_, leV, as_, at_, V.inn, us, T9_, Ta_]) (by simp only [go_sem, seval, ad_, ab_, ah_, aa_, ae_, au_, leV, as_, at_, V.inn, us, T9_, Ta_]))
    refine .seq (.seq (.rgn [] (by simp only [go_sem, seval, ad_, ab_, ah_, aa_, ae_]; rfl) ?_ ?_))
    ·first | trivial | simp
    refine .condB (by simp only [go_sem, seval, ad_, ab_, ah_, aa_, ae_]; rfl) (by simp only [go_sem, seval, ad_, ab_, ah_, aa_, ae_]) (fun h53 => ?_) (fun h53 => ?_)
    ·refine .seq (.rgn [bi_ [22] [] (i1_ (bf_ (l.take k)).said (bf_ (l.take k)).said.length rfl (by have := (cd_ hI.1 (b2_ hI.2.2).2.1).2.2; omega))] (by simp only [go_sem, seval, ad_, ab_, ah_, aa_, ae_]; rfl) ?_ ?_)
     ·first | trivial | simp
     refine .ret ⟨.inr rfl, ?_⟩
     exact Out.mem' (by simp only [Tryz.results13]; rfl) (by simp only [aw_, a3_, go_sem, seval, ad_, ab_, ah_, aa_, ae_]) (by simp only [a2_, rns, rn, go_sem, seval, ad_, ab_, ah_, aa_, ae_] <;> (rw [e1_ hI.2.2 (by simpa using h23) hI.2.1 (by simpa using h28) (by rw [hJ] at h53; simpa using h53)]; try simp)) (by simp) rfl (by decide) (by simp only [go_sem, seval, ad_, ab_, ah_, aa_, ae_]) (by simp only [aq_, go_sem, seval, ad_, ab_, ah_, aa_, ae_]) (by simp only [ak_, go_sem, seval, ad_, ab_, ah_, aa_, ae_] <;> (rw [e1_ hI.2.2 (by simpa using h23) hI.2.1 (by simpa using h28) (by rw [hJ] at h53; simpa using h53)]; (try simp [bv_, aa_])))
    ·refine .skip (.seq (.rgn [] (by simp only [go_sem, seval, ad_, ab_, ah_, aa_, ae_]; rfl) ?_ ?_))
     ·first | trivial | simp
     refine .condB (by simp only [go_sem, seval, ad_, ab_, ah_, aa_, ae_]; rfl) (by simp only [go_sem, seval, ad_, ab_, ah_, aa_, ae_]) (fun h58 => ?_) (fun h58 => ?_)
     ·refine .rgn [] (by simp only [go_sem, seval, ad_, ab_, ah_, aa_, ae_]; rfl) ?_ ?_
      ·have := cd_ hI.1 (b2_ hI.2.2).2.1; simp; omega
      refine .rgn [] (by simp only [go_sem, seval, ad_, ab_, ah_, aa_, ae_]; rfl) ?_ ?_
      ·first | trivial | simp
      refine Exists.intro (k + 1) ⟨?_, ?_, ?_⟩
      ·have hk : k < l.length := (by simpa using h23); have e := eb_ hk hI.2.1 (by simpa using h58) (by rw [hJ] at h53; simpa using h53); exact ⟨by omega, by rw [e]; exact hI.2.1, hI.2.2⟩
      ·simp at h23; omega
      refine Can.trans (Can.swap 73 20 (by decide) (by decide) (by decide) (by decide) (by simp only [go_sem, seval, ad_, ab_, ah_, aa_, ae_, V.cl]) (by simp only [go_sem, seval, ad_, ab_, ah_, aa_, ae_, V.cl]) (by simp only [go_sem, seval, ad_, ab_, ah_, aa_, ae_, a5_, sw, swM, rnB] <;> rfl) (by simp only [go_sem, seval, ad_, ab_, ah_, aa_, ae_, a5_, sw, swM, rnB] <;> rfl) (by simp only [go_sem, seval, ad_, ab_, ah_, aa_, ae_, a5_, sw, swM, rnB] <;> rfl)) ?_
      refine Can.trans (Can.swap 77 21 (by decide) (by decide) (by decide) (by decide) (by simp only [go_sem, seval, ad_, ab_, ah_, aa_, ae_, V.cl]) (by simp only [go_sem, seval, ad_, ab_, ah_, aa_, ae_, V.cl]) (by simp only [go_sem, seval, ad_, ab_, ah_, aa_, ae_, a5_, sw, swM, rnB] <;> rfl) (by simp only [go_sem, seval, ad_, ab_, ah_, aa_, ae_, a5_, sw, swM, rnB] <;> rfl) (by simp only [go_sem, seval, ad_, ab_, ah_, aa_, ae_, a5_, sw, swM, rnB] <;> rfl)) ?_
      exact Can.weak (Weak.lit (by simp only [go_sem, seval, ad_, ab_, ah_, aa_, ae_, au_, leV, as_, at_, V.inn, us, T9_, Ta_] <;> ((have hk : k < l.length := (by simpa using h23)); (have e := eb_ hk hI.2.1 (by simpa using h58) (by rw [hJ] at h53; simpa using h53)); rw [e, a8_ (by omega) (by omega)]; simp)) (by simp only [go_sem, seval, ad_, ab_, ah_, aa_, ae_, au_, leV, as_, at_, V.inn, us, T9_, Ta_]) (by simp only [go_sem, seval, ad_, ab_, ah_, aa_, ae_, au_, leV, as_, at_, V.inn, us, T9_, Ta_] <;> ((have hk : k < l.length := (by simpa using h23)); (have e := eb_ hk hI.2.1 (by simpa using h58) (by rw [hJ] at h53; simpa using h53)); rw [e]; simp [hu_, d5_])))
     ·refine .seq (.rgn [] (by simp only [go_sem, seval, ad_, ab_, ah_, aa_, ae_]; rfl) ?_ ?_)
      ·first | trivial | simp
      refine .condB (by simp only [go_sem, seval, ad_, ab_, ah_, aa_, ae_]; rfl) (by simp only [go_sem, seval, ad_, ab_, ah_, aa_, ae_]) (fun h74 => ?_) (fun h74 => ?_)
      ·refine .rgn [] (by simp only [go_sem, seval, ad_, ab_, ah_, aa_, ae_]; rfl) ?_ ?_
       ·have := cd_ hI.1 (b2_ hI.2.2).2.1; simp; omega
       refine .rgn [] (by simp only [go_sem, seval, ad_, ab_, ah_, aa_, ae_]; rfl) ?_ ?_
       ·first | trivial | simp
       refine Exists.intro (k + 1) ⟨?_, ?_, ?_⟩
       ·have hk : k < l.length := (by simpa using h23); have e := cx_ hk hI.2.1 (by simpa using h28) (by simpa using h58) (by rw [hJ] at h53; simpa using h53) (by simp at h74; exact h74); exact ⟨by omega, by rw [e]; exact hI.2.1, hI.2.2⟩
       ·simp at h23; omega
       refine Can.trans (Can.swap 88 22 (by decide) (by decide) (by decide) (by decide) (by simp only [go_sem, seval, ad_, ab_, ah_, aa_, ae_, V.cl]) (by simp only [go_sem, seval, ad_, ab_, ah_, aa_, ae_, V.cl]) (by simp only [go_sem, seval, ad_, ab_, ah_, aa_, ae_, a5_, sw, swM, rnB] <;> rfl) (by simp only [go_sem, seval, ad_, ab_, ah_, aa_, ae_, a5_, sw, swM, rnB] <;> rfl) (by simp only [go_sem, seval, ad_, ab_, ah_, aa_, ae_, a5_, sw, swM, rnB] <;> rfl)) ?_
       exact Can.weak (Weak.lit (by simp only [go_sem, seval, ad_, ab_, ah_, aa_, ae_, au_, leV, as_, at_, V.inn, us, T9_, Ta_] <;> ((have hk : k < l.length := (by simpa using h23)); (have e := cx_ hk hI.2.1 (by simpa using h28) (by simpa using h58) (by rw [hJ] at h53; simpa using h53) (by simp at h74; exact h74)); rw [e, a8_ (by omega) (by omega)]; simp)) (by simp only [go_sem, seval, ad_, ab_, ah_, aa_, ae_, au_, leV, as_, at_, V.inn, us, T9_, Ta_]) (by simp only [go_sem, seval, ad_, ab_, ah_, aa_, ae_, au_, leV, as_, at_, V.inn, us, T9_, Ta_] <;> ((have hk : k < l.length := (by simpa using h23)); (have e := cx_ hk hI.2.1 (by simpa using h28) (by simpa using h58) (by rw [hJ] at h53; simpa using h53) (by simp at h74; exact h74)); rw [e]; simp [d5_, hJ])))
      ·refine .skip (.rgn [] (by simp only [go_sem, seval, ad_, ab_, ah_, aa_, ae_]; rfl) ?_ ?_)
       ·first | trivial | simp
       refine Exists.intro (k + 1) ⟨?_, ?_, ?_⟩
       ·have hk : k < l.length := (by simpa using h23); have e := dp_ hk hI.2.1 (by simpa using h28) (by simpa using h58) (by rw [hJ] at h53; simpa using h53) (by simp at h74; exact h74.1) (by simp at h74; exact h74.2); exact ⟨by omega, by rw [e]; exact hI.2.1, hI.2.2⟩
       ·simp at h23; omega
       exact Can.weak (Weak.lit (by simp only [go_sem, seval, ad_, ab_, ah_, aa_, ae_, au_, leV, as_, at_, V.inn, us, T9_, Ta_] <;> ((have hk : k < l.length := (by simpa using h23)); (have e := dp_ hk hI.2.1 (by simpa using h28) (by simpa using h58) (by rw [hJ] at h53; simpa using h53) (by simp at h74; exact h74.1) (by simp at h74; exact h74.2)); rw [e, a8_ (by omega) (by omega)]; simp)) (by simp only [go_sem, seval, ad_, ab_, ah_, aa_, ae_, au_, leV, as_, at_, V.inn, us, T9_, Ta_]) (by simp only [go_sem, seval, ad_, ab_, ah_, aa_, ae_, au_, leV, as_, at_, V.inn, us, T9_, Ta_] <;> ((have hk : k < l.length := (by simpa using h23)); (have e := dp_ hk hI.2.1 (by simpa using h28) (by simpa using h58) (by rw [hJ] at h53; simpa using h53) (by simp at h74; exact h74.1) (by simp at h74; exact h74.2)); rw [e]; simp)))
  ·refine .exit (.seq (.rgn [bi_ [22] [] (i1_ (bf_ (l.take k)).said (bf_ (l.take k)).said.length rfl (by have := (cd_ hI.1 (b2_ hI.2.2).2.1).2.2; omega))] (by simp only [go_sem, seval, ad_, ab_, ah_, aa_, ae_]; rfl) ?_ ?_))
   ·first | trivial | simp
   refine .ret ⟨.inr rfl, ?_⟩
   exact Out.mem' (by simp only [Tryz.results13]; rfl) (by simp only [aw_, a3_, go_sem, seval, ad_, ab_, ah_, aa_, ae_]) (by simp only [a2_, rns, rn, go_sem, seval, ad_, ab_, ah_, aa_, ae_] <;> (rw [ft_ hI.2.2 (by simpa using h23) hI.2.1]; try simp)) (by simp) rfl (by decide) (by simp only [go_sem, seval, ad_, ab_, ah_, aa_, ae_]) (by simp only [aq_, go_sem, seval, ad_, ab_, ah_, aa_, ae_]) (by simp only [ak_, go_sem, seval, ad_, ab_, ah_, aa_, ae_] <;> (rw [ft_ hI.2.2 (by simpa using h23) hI.2.1]; (try simp [bv_, aa_])))
end
section
set_option maxRecDepth 100000
set_option maxHeartbeats 4000000
theorem fb_ (l : List Bl) (hs : e3_ l = true) (hl : l.length < 4611686018427387904) : ACall En 13 [.sl false (bLR l)] [] [.sl false (inR (bw_ l).1), .b (bw_ l).2] [] :=
 ACall.frz1 (lc_ l hs hl) (by simp [de_, frz, ah_, T1_])
def f8_ (b : Bl) : Sl := ⟨b.kind, b.name, [], b.expr, b.thn⟩
theorem a7_ (b : Bl) : (f8_ b).kind = b.kind ∧ (f8_ b).name = b.name ∧ (f8_ b).type = [] ∧ (f8_ b).expr = b.expr ∧ (f8_ b).thn = b.thn := ⟨rfl, rfl, rfl, rfl, rfl⟩
theorem inE (l : List Int) : (inR l).length = l.length ∧ br_ (inR l) = true := ⟨ah_ l, aa_ l⟩
theorem ew_ {l : List Bl} {k : Nat} (h : k < l.length) : (sR (l.map f8_)).getD k [] = sC (f8_ (l.getD k B0)) := by
 simp [sR, T8_, T6_ h]
theorem av_ (l : List Bl) : (sR (l.map f8_)).length = l.length := by simp [sR]
theorem v3_ (l : List Bl) (hs : e3_ l = true) (hl : l.length < 4611686018427387904) : ACall En 61 [.sl false (bLR l)] [] [.b (lok l)] [] := by
 refine ap_ (fn := Tryz.f61) [] Tryz.func61 rfl rfl (by simp) fun C => ?_
 rw [ay_]
 simp only [Tryz.ntmps61, T7_, List.length_nil, Nat.reduceAdd, Nat.reduceSub, List.replicate_succ, List.replicate_zero, List.cons_append, List.nil_append, bl_]
 refine .seq (.rgn [] (by simp only [go_sem, seval, ad_, ab_, ae_]; rfl) ?_ ?_)
 ·first | trivial | simp
 refine .seq (.seq (.rgn [] (by simp only [go_sem, seval, ad_, ab_, ae_]; rfl) ?_ ?_))
 ·first | trivial | simp
 refine .block (.loopK (fun k : Nat => ⟨[.sl false (bLR l), .no, .no, .i .i64 k, .no, .no, .no, .no, .no, .no, .no, .no, .no, .no, .no, .no, .no, .no, .no, .no, .no, .no, .no, .no], a1_ [], us []⟩) (fun k : Nat => k ≤ l.length ∧ (l.take k).any (fun s => !bok s) = false) (fun k : Nat => l.length - k) (0) ?_ ?_ (fun k hI => ?_))
 ·simp
 ·exact Can.weak (Weak.lit (by simp only [go_sem, seval, ad_, ab_, ae_, au_, leV, as_, at_, V.inn, us, T9_, Ta_] <;> (simp)) (by simp only [go_sem, seval, ad_, ab_, ae_, au_, leV, as_, at_, V.inn, us, T9_, Ta_]) (by simp only [go_sem, seval, ad_, ab_, ae_, au_, leV, as_, at_, V.inn, us, T9_, Ta_]))
 refine .seq (.seq (.rgn [] (by simp only [go_sem, seval, ad_, ab_, ae_]; rfl) ?_ ?_))
 ·first | trivial | simp
 refine .condB (by simp only [go_sem, seval, ad_, ab_, ae_]; rfl) (by simp only [go_sem, seval, ad_, ab_, ae_]) (fun h7 => ?_) (fun h7 => ?_)
 ·refine .skip (.seq (.block (.seq (.rgn [eu_ (k < l.length) (fun h => iu_ (l.getD k B0) (kd_ hs h))] (by simp only [go_sem, seval, ad_, ab_, ae_, fq_ (show k < l.length by simpa using h7)]; rfl) ?_ ?_))))
  ·simp only [T3_] at h7; simp; omega
  refine .condB (by simp only [go_sem, seval, ad_, ab_, ae_]; rfl) (by simp only [go_sem, seval, ad_, ab_, ae_]) (fun h15 => ?_) (fun h15 => ?_)
  ·refine .seq (.rgn [] (by simp only [go_sem, seval, ad_, ab_, ae_]; rfl) ?_ ?_)
   ·first | trivial | simp
   refine .ret ⟨.inr rfl, ?_⟩
   exact Out.plain (by simp only [Tryz.results61]; rfl) (by simp only [aw_, a3_, go_sem, seval, ad_, ab_, ae_] <;> (split <;> rfl)) (by simp only [a2_, go_sem, seval, ad_, ab_, ae_] <;> (simp only [T3_] at h7; have : l.all bok = false := (by rw [List.all_eq_false]; exact ⟨_, ba_ (d := B0) (show k < l.length by omega), by simpa using h15⟩); simp [lok, this])) (by simp only [go_sem, seval, ad_, ab_, ae_])
  ·refine .skip (.rgn [] (by simp only [go_sem, seval, ad_, ab_, ae_]; rfl) ?_ ?_)
   ·first | trivial | simp
   refine Exists.intro (k + 1) ⟨?_, ?_, ?_⟩
   ·simp at h7; refine ⟨by omega, ?_⟩; rw [hy_ (d := B0) h7, hI.2, h15]; rfl
   ·simp at h7; omega
   exact Can.weak (Weak.lit (by simp only [go_sem, seval, ad_, ab_, ae_, au_, leV, as_, at_, V.inn, us, T9_, Ta_] <;> (rw [a8_ (by omega) (by omega)]; simp)) (by simp only [go_sem, seval, ad_, ab_, ae_, au_, leV, as_, at_, V.inn, us, T9_, Ta_]) (by simp only [go_sem, seval, ad_, ab_, ae_, au_, leV, as_, at_, V.inn, us, T9_, Ta_]))
 ·refine .exit (.seq (.rgn [] (by simp only [go_sem, seval, ad_, ab_, ae_]; rfl) ?_ ?_))
  ·first | trivial | simp
  refine .ret ⟨.inr rfl, ?_⟩
  exact Out.plain (by simp only [Tryz.results61]; rfl) (by simp only [aw_, a3_, go_sem, seval, ad_, ab_, ae_] <;> (split <;> rfl)) (by simp only [a2_, go_sem, seval, ad_, ab_, ae_] <;> (simp only [T4_] at h7; have h0 := hI.2; rw [T1_ (by omega), u8_] at h0; simp only [Bool.not_eq_false'] at h0; simp only [lok, h0, Bool.and_true, d6_, ge_iff_le]; rfl)) (by simp only [go_sem, seval, ad_, ab_, ae_])
def kw_ (b : Bl) (N : List Str) (M : List Int) : Int := if (rk b.expr N M).2 = true ∧ b.kind = 3 then (rk b.thn N M).1 else 0
theorem qm_ (b : Bl) (N : List Str) (M : List Int) (h : form b.expr ((5 : Nat) : Int) = true) (h2 : b.kind = 3 → form b.thn ((5 : Nat) : Int) = true) (hl : N.length = M.length) (hn : N.length ≤ 1000000) :
  ACall En 111 [.ag (sC (f8_ b)), .sl false (bn_ N), .sl false (inR M)] [] [.i .i64 (rk b.expr N M).1, .i .i64 (kw_ b N M), .b (co_ b N M).2.2] [] := by
 refine ap_ (fn := Tryz.f111) [] Tryz.func111 rfl rfl (by simp) fun C => ?_
 rw [ay_]
 simp only [Tryz.ntmps111, T7_, List.length_nil, Nat.reduceAdd, Nat.reduceSub, List.replicate_succ, List.replicate_zero, List.cons_append, List.nil_append, bl_]
 refine .seq (.rgn [] (by simp only [go_sem, seval, inE, al_, a7_]; rfl) ?_ ?_)
 ·first | trivial | simp
 refine .seq (.rgn [a4_ (us_ 5 b.expr N M h hl hn)] (by simp only [go_sem, seval, inE, al_, a7_]; rfl) ?_ ?_)
 ·first | trivial | simp
 refine .seq (.seq (.rgn [] (by simp only [go_sem, seval, inE, al_, a7_]; rfl) ?_ ?_))
 ·first | trivial | simp
 refine .condB (by simp only [go_sem, seval, inE, al_, a7_]; rfl) (by simp only [go_sem, seval, inE, al_, a7_]) (fun h27 => ?_) (fun h27 => ?_)
 ·refine .seq (.rgn [] (by simp only [go_sem, seval, inE, al_, a7_]; rfl) ?_ ?_)
  ·first | trivial | simp
  refine .ret ⟨.inr rfl, ?_⟩
  exact Out.plain (by simp only [Tryz.results111]; rfl) (by simp only [aw_, a3_, go_sem, seval, inE, al_, a7_] <;> (split <;> rfl)) (by simp only [a2_, go_sem, seval, inE, al_, a7_] <;> (unfold co_ kw_; simp at h27; (by_cases hk : b.kind = 3 <;> simp_all))) (by simp only [go_sem, seval, inE, al_, a7_])
 ·refine .skip (.seq (.rgn [a4_ (us_ 5 b.thn N M (h2 (by simp at h27; exact h27.1)) hl hn)] (by simp only [go_sem, seval, inE, al_, a7_]; rfl) ?_ ?_))
  ·first | trivial | simp
  refine .seq (.rgn [] (by simp only [go_sem, seval, inE, al_, a7_]; rfl) ?_ ?_)
  ·first | trivial | simp
  refine .ret ⟨.inr rfl, ?_⟩
  exact Out.plain (by simp only [Tryz.results111]; rfl) (by simp only [aw_, a3_, go_sem, seval, inE, al_, a7_] <;> (split <;> rfl)) (by simp only [a2_, go_sem, seval, inE, al_, a7_] <;> (unfold co_ kw_; simp at h27; simp [h27])) (by simp only [go_sem, seval, inE, al_, a7_])
theorem ni_ {b : Bl} {N : List Str} {M : List Int} (k : b.kind = 3) (h : (co_ b N M).2.2 = true) : (co_ b N M).2.1 = kw_ b N M := by
 unfold co_ kw_ at *
 by_cases hk : (rk b.expr N M).2 = true ∧ b.kind = 3
 ·rw [if_pos hk, if_pos hk]
 ·rw [if_neg hk] at h
  exact absurd ⟨h, k⟩ hk
theorem sm_ {b : Bl} {N : List Str} {M : List Int} (k : b.kind = 2) : (co_ b N M).2.1 = (rk b.expr N M).1 := by
 unfold co_; rw [if_neg (by omega)]
theorem rg_ (l : List Bl) (hs : lok l = true) : ACall En 62 [.sl false (sR (l.map f8_))] [] [.ow 0 1 0 (bw_ l).1.length, .b (bw_ l).2] [⟨3, 1, inR (bw_ l).1⟩] := by
 have hb := (b2_ hs).2.1
 have F1 : ∀ k, k < l.length → ¬ (l.getD k B0).kind = 0 → form (l.getD k B0).expr ((5 : Nat) : Int) = true := fun k hk hk0 => b6_ (l6_ ((b2_ hs).2.2 k hk) hk0)
 have F2 : ∀ k, k < l.length → (l.getD k B0).kind = 3 → form (l.getD k B0).thn ((5 : Nat) : Int) = true := fun k hk hk0 => b6_ (oz_ ((b2_ hs).2.2 k hk) hk0)
 have F3 : ∀ k, k < l.length → ¬ (l.getD k B0).kind = 0 → ¬ (l.getD k B0).kind = 1 → ¬ (l.getD k B0).kind = 2 → (l.getD k B0).kind = 3 := fun k hk a b c => by have := rd_ ((b2_ hs).2.2 k hk); omega
 refine ap_ (fn := Tryz.f62) [22] Tryz.func62 rfl rfl (by simp) fun C => ?_
 rw [ay_]
 simp only [Tryz.ntmps62, T7_, List.length_nil, Nat.reduceAdd, Nat.reduceSub, List.replicate_succ, List.replicate_zero, List.cons_append, List.nil_append, bl_]
 refine .seq (.rgn [] (by simp only [go_sem, seval, av_, ai_, inE, al_, a7_]; rfl) ?_ ?_)
 ·first | trivial | simp
 refine .seq (.rgn [] (by simp only [go_sem, seval, av_, ai_, inE, al_, a7_]; rfl) ?_ ?_)
 ·first | trivial | simp
 refine .seq (.rgn [] (by simp only [go_sem, seval, av_, ai_, inE, al_, a7_]; rfl) ?_ ?_)
 ·first | trivial | simp
 refine .seq (.rgn [] (by simp only [go_sem, seval, av_, ai_, inE, al_, a7_]; rfl) ?_ ?_)
 ·first | trivial | simp
 refine .seq (.seq (.rgn [] (by simp only [go_sem, seval, av_, ai_, inE, al_, a7_]; rfl) ?_ ?_))
 ·first | trivial | simp
 refine .block (.loopK (fun k : Nat => ⟨[.sl false (sR (l.map f8_)), .no, .no, .no, .ow 22 1 0 (bf_ (l.take k)).said.length, .ow 20 1 0 (bf_ (l.take k)).names.length, .ow 21 1 0 (bf_ (l.take k)).nums.length, .i .i64 k, .no, .no, .no, .no, .no, .no, .no, .no, .no, .no, .no, .no, .no, .no, .no, .no, .no, .no, .no, .no, .no, .no, .no, .no, .no, .no, .no, .no, .no, .no, .no, .no, .no, .no, .no, .no, .no, .no, .no, .no, .no, .no, .no, .no, .no, .no, .no, .no, .no, .no, .no, .no, .no, .no, .no, .no, .no, .no, .no, .no, .no, .no, .no, .no, .no, .no, .no, .no, .no, .no, .no], a1_ [(20, ⟨9, 1, bn_ (bf_ (l.take k)).names⟩), (21, ⟨3, 1, inR (bf_ (l.take k)).nums⟩), (22, ⟨3, 1, inR (bf_ (l.take k)).said⟩)], us [20, 21, 22]⟩) (fun k : Nat => k ≤ l.length ∧ (bf_ (l.take k)).ok = true) (fun k : Nat => l.length - k) (0) ?_ ?_ (fun k hI => ?_))
 ·exact ⟨Nat.zero_le _, by simp [bf_]⟩
 ·refine Can.trans (Can.ownSlot 5 20 9 1 (by simp only [go_sem, seval, av_, ai_, inE, al_, a7_] <;> rfl) (by simp only [go_sem, seval, av_, ai_, inE, al_, a7_]) (by simp only [go_sem, seval, av_, ai_, inE, al_, a7_] <;> rfl)) ?_
  refine Can.trans (Can.ownSlot 6 21 3 1 (by simp only [go_sem, seval, av_, ai_, inE, al_, a7_] <;> rfl) (by simp only [go_sem, seval, av_, ai_, inE, al_, a7_]) (by simp only [go_sem, seval, av_, ai_, inE, al_, a7_] <;> rfl)) ?_
  refine Can.trans (Can.ownSlot 4 22 3 1 (by simp only [go_sem, seval, av_, ai_, inE, al_, a7_] <;> rfl) (by simp only [go_sem, seval, av_, ai_, inE, al_, a7_]) (by simp only [go_sem, seval, av_, ai_, inE, al_, a7_] <;> rfl)) ?_
  exact Can.weak (Weak.lit (by simp only [go_sem, seval, av_, ai_, inE, al_, a7_, au_, leV, as_, at_, V.inn, us, T9_, Ta_] <;> (simp [bf_])) (by simp only [go_sem, seval, av_, ai_, inE, al_, a7_, au_, leV, as_, at_, V.inn, us, T9_, Ta_]) (by simp only [go_sem, seval, av_, ai_, inE, al_, a7_, au_, leV, as_, at_, V.inn, us, T9_, Ta_] <;> (simp [bf_, bn_, inR])))
 refine .seq (.seq (.rgn [] (by simp only [go_sem, seval, av_, ai_, inE, al_, a7_]; rfl) ?_ ?_))
 ·first | trivial | simp
 refine .condB (by simp only [go_sem, seval, av_, ai_, inE, al_, a7_]; rfl) (by simp only [go_sem, seval, av_, ai_, inE, al_, a7_]) (fun h17 => ?_) (fun h17 => ?_)
 ·refine .skip (.seq (.block (.seq (.seq (.rgn [] (by simp only [go_sem, seval, av_, ai_, inE, al_, a7_, ew_ (show k < l.length by simpa using h17)]; rfl) ?_ ?_)))))
  ·simp at h17; simp; omega
  refine .condB (by simp only [go_sem, seval, av_, ai_, inE, al_, a7_]; rfl) (by simp only [go_sem, seval, av_, ai_, inE, al_, a7_]) (fun h25 => ?_) (fun h25 => ?_)
  ·refine .exit (.rgn [] (by simp only [go_sem, seval, av_, ai_, inE, al_, a7_]; rfl) ?_ ?_)
   ·first | trivial | simp
   refine Exists.intro (k + 1) ⟨?_, ?_, ?_⟩
   ·have hk : k < l.length := (by simpa using h17); have e := dn_ hk (by simpa using h25); exact ⟨by omega, by rw [e]; exact hI.2⟩
   ·simp at h17; omega
   exact Can.weak (Weak.lit (by simp only [go_sem, seval, av_, ai_, inE, al_, a7_, au_, leV, as_, at_, V.inn, us, T9_, Ta_] <;> ((have hk : k < l.length := (by simpa using h17)); (have e := dn_ hk (by simpa using h25)); rw [e, a8_ (by omega) (by omega)]; simp)) (by simp only [go_sem, seval, av_, ai_, inE, al_, a7_, au_, leV, as_, at_, V.inn, us, T9_, Ta_]) (by simp only [go_sem, seval, av_, ai_, inE, al_, a7_, au_, leV, as_, at_, V.inn, us, T9_, Ta_] <;> ((have hk : k < l.length := (by simpa using h17)); (have e := dn_ hk (by simpa using h25)); rw [e]; simp)))
  ·refine .skip (.seq (.rgn [k1_ (qm_ (l.getD k B0) (bf_ (l.take k)).names (bf_ (l.take k)).nums (F1 k (by simpa using h17) (by simpa using h25)) (F2 k (by simpa using h17)) (cd_ hI.1 hb).1 (by have := (cd_ hI.1 hb).2.1; omega))] (by simp only [go_sem, seval, av_, ai_, inE, al_, a7_, ew_ (show k < l.length by simpa using h17)]; rfl) ?_ ?_))
   ·simp at h17; simp [T1_, am_, ah_, bq_]; omega
   refine .block (.seq (.rgn [] (by simp only [go_sem, seval, av_, ai_, inE, al_, a7_]; rfl) ?_ ?_))
   ·first | trivial | simp
   refine .condB (by simp only [go_sem, seval, av_, ai_, inE, al_, a7_]; rfl) (by simp only [go_sem, seval, av_, ai_, inE, al_, a7_]) (fun h37 => ?_) (fun h37 => ?_)
   ·refine .seq (.rgn [] (by simp only [go_sem, seval, av_, ai_, inE, al_, a7_]; rfl) ?_ ?_)
    ·first | trivial | simp
    refine .ret ⟨.inr rfl, ?_⟩
    exact Out.mem' (by simp only [Tryz.results62]; rfl) (by simp only [aw_, a3_, go_sem, seval, av_, ai_, inE, al_, a7_]) (by simp only [a2_, rns, rn, go_sem, seval, av_, ai_, inE, al_, a7_] <;> (rw [e1_ hs (by simpa using h17) hI.2 (by simpa using h25) (by simpa using h37)]; try simp)) (by simp) rfl (by decide) (by simp only [go_sem, seval, av_, ai_, inE, al_, a7_]) (by simp only [aq_, go_sem, seval, av_, ai_, inE, al_, a7_]) (by simp only [ak_, go_sem, seval, av_, ai_, inE, al_, a7_] <;> (rw [e1_ hs (by simpa using h17) hI.2 (by simpa using h25) (by simpa using h37)]; (try simp [bv_, aa_])))
   ·refine .seq (.rgn [] (by simp only [go_sem, seval, av_, ai_, inE, al_, a7_, ew_ (show k < l.length by simpa using h17)]; rfl) ?_ ?_)
    ·simp at h17; simp; omega
    refine .condB (by simp only [go_sem, seval, av_, ai_, inE, al_, a7_]; rfl) (by simp only [go_sem, seval, av_, ai_, inE, al_, a7_]) (fun h41 => ?_) (fun h41 => ?_)
    ·refine .seq (.rgn [] (by simp only [go_sem, seval, av_, ai_, inE, al_, a7_, ew_ (show k < l.length by simpa using h17)]; rfl) ?_ ?_)
     ·have := cd_ hI.1 hb; simp at h17; simp; omega
     refine .rgn [] (by simp only [go_sem, seval, av_, ai_, inE, al_, a7_]; rfl) ?_ ?_
     ·have := cd_ hI.1 hb; simp; omega
     refine .rgn [] (by simp only [go_sem, seval, av_, ai_, inE, al_, a7_]; rfl) ?_ ?_
     ·first | trivial | simp
     refine Exists.intro (k + 1) ⟨?_, ?_, ?_⟩
     ·have hk : k < l.length := (by simpa using h17); have e := eb_ hk hI.2 (by simpa using h41) (by simpa using h37); exact ⟨by omega, by rw [e]; exact hI.2⟩
     ·simp at h17; omega
     refine Can.trans (Can.swap 65 20 (by decide) (by decide) (by decide) (by decide) (by simp only [go_sem, seval, av_, ai_, inE, al_, a7_, V.cl]) (by simp only [go_sem, seval, av_, ai_, inE, al_, a7_, V.cl]) (by simp only [go_sem, seval, av_, ai_, inE, al_, a7_, a5_, sw, swM, rnB] <;> rfl) (by simp only [go_sem, seval, av_, ai_, inE, al_, a7_, a5_, sw, swM, rnB] <;> rfl) (by simp only [go_sem, seval, av_, ai_, inE, al_, a7_, a5_, sw, swM, rnB] <;> rfl)) ?_
     refine Can.trans (Can.swap 69 21 (by decide) (by decide) (by decide) (by decide) (by simp only [go_sem, seval, av_, ai_, inE, al_, a7_, V.cl]) (by simp only [go_sem, seval, av_, ai_, inE, al_, a7_, V.cl]) (by simp only [go_sem, seval, av_, ai_, inE, al_, a7_, a5_, sw, swM, rnB] <;> rfl) (by simp only [go_sem, seval, av_, ai_, inE, al_, a7_, a5_, sw, swM, rnB] <;> rfl) (by simp only [go_sem, seval, av_, ai_, inE, al_, a7_, a5_, sw, swM, rnB] <;> rfl)) ?_
     exact Can.weak (Weak.lit (by simp only [go_sem, seval, av_, ai_, inE, al_, a7_, au_, leV, as_, at_, V.inn, us, T9_, Ta_] <;> ((have hk : k < l.length := (by simpa using h17)); (have e := eb_ hk hI.2 (by simpa using h41) (by simpa using h37)); rw [e, a8_ (by omega) (by omega)]; simp)) (by simp only [go_sem, seval, av_, ai_, inE, al_, a7_, au_, leV, as_, at_, V.inn, us, T9_, Ta_]) (by simp only [go_sem, seval, av_, ai_, inE, al_, a7_, au_, leV, as_, at_, V.inn, us, T9_, Ta_] <;> ((have hk : k < l.length := (by simpa using h17)); (have e := eb_ hk hI.2 (by simpa using h41) (by simpa using h37)); rw [e]; simp [hu_, d5_])))
    ·refine .seq (.rgn [] (by simp only [go_sem, seval, av_, ai_, inE, al_, a7_, ew_ (show k < l.length by simpa using h17)]; rfl) ?_ ?_)
     ·simp at h17; simp; omega
     refine .condB (by simp only [go_sem, seval, av_, ai_, inE, al_, a7_]; rfl) (by simp only [go_sem, seval, av_, ai_, inE, al_, a7_]) (fun h60 => ?_) (fun h60 => ?_)
     ·refine .rgn [] (by simp only [go_sem, seval, av_, ai_, inE, al_, a7_]; rfl) ?_ ?_
      ·have := cd_ hI.1 hb; simp; omega
      refine .rgn [] (by simp only [go_sem, seval, av_, ai_, inE, al_, a7_]; rfl) ?_ ?_
      ·first | trivial | simp
      refine Exists.intro (k + 1) ⟨?_, ?_, ?_⟩
      ·have hk : k < l.length := (by simpa using h17); have e := cx_ hk hI.2 (by simpa using h25) (by simpa using h41) (by simpa using h37) (.inl (by simpa using h60)); exact ⟨by omega, by rw [e]; exact hI.2⟩
      ·simp at h17; omega
      refine Can.trans (Can.swap 80 22 (by decide) (by decide) (by decide) (by decide) (by simp only [go_sem, seval, av_, ai_, inE, al_, a7_, V.cl]) (by simp only [go_sem, seval, av_, ai_, inE, al_, a7_, V.cl]) (by simp only [go_sem, seval, av_, ai_, inE, al_, a7_, a5_, sw, swM, rnB] <;> rfl) (by simp only [go_sem, seval, av_, ai_, inE, al_, a7_, a5_, sw, swM, rnB] <;> rfl) (by simp only [go_sem, seval, av_, ai_, inE, al_, a7_, a5_, sw, swM, rnB] <;> rfl)) ?_
      exact Can.weak (Weak.lit (by simp only [go_sem, seval, av_, ai_, inE, al_, a7_, au_, leV, as_, at_, V.inn, us, T9_, Ta_] <;> ((have hk : k < l.length := (by simpa using h17)); (have e := cx_ hk hI.2 (by simpa using h25) (by simpa using h41) (by simpa using h37) (.inl (by simpa using h60))); rw [e, a8_ (by omega) (by omega)]; simp)) (by simp only [go_sem, seval, av_, ai_, inE, al_, a7_, au_, leV, as_, at_, V.inn, us, T9_, Ta_]) (by simp only [go_sem, seval, av_, ai_, inE, al_, a7_, au_, leV, as_, at_, V.inn, us, T9_, Ta_] <;> ((have hk : k < l.length := (by simpa using h17)); (have e := cx_ hk hI.2 (by simpa using h25) (by simpa using h41) (by simpa using h37) (.inl (by simpa using h60))); rw [e, sm_ (by simpa using h60)]; simp [d5_])))
     ·refine .seq (.rgn [] (by simp only [go_sem, seval, av_, ai_, inE, al_, a7_]; rfl) ?_ ?_)
      ·first | trivial | simp
      refine .condB (by simp only [go_sem, seval, av_, ai_, inE, al_, a7_]; rfl) (by simp only [go_sem, seval, av_, ai_, inE, al_, a7_]) (fun h71 => ?_) (fun h71 => ?_)
      ·refine .rgn [] (by simp only [go_sem, seval, av_, ai_, inE, al_, a7_]; rfl) ?_ ?_
       ·have := cd_ hI.1 hb; simp; omega
       refine .rgn [] (by simp only [go_sem, seval, av_, ai_, inE, al_, a7_]; rfl) ?_ ?_
       ·first | trivial | simp
       refine Exists.intro (k + 1) ⟨?_, ?_, ?_⟩
       ·have hk : k < l.length := (by simpa using h17); have e := cx_ hk hI.2 (by simpa using h25) (by simpa using h41) (by simpa using h37) (.inr (by simpa using h71)); exact ⟨by omega, by rw [e]; exact hI.2⟩
       ·simp at h17; omega
       refine Can.trans (Can.swap 87 22 (by decide) (by decide) (by decide) (by decide) (by simp only [go_sem, seval, av_, ai_, inE, al_, a7_, V.cl]) (by simp only [go_sem, seval, av_, ai_, inE, al_, a7_, V.cl]) (by simp only [go_sem, seval, av_, ai_, inE, al_, a7_, a5_, sw, swM, rnB] <;> rfl) (by simp only [go_sem, seval, av_, ai_, inE, al_, a7_, a5_, sw, swM, rnB] <;> rfl) (by simp only [go_sem, seval, av_, ai_, inE, al_, a7_, a5_, sw, swM, rnB] <;> rfl)) ?_
       exact Can.weak (Weak.lit (by simp only [go_sem, seval, av_, ai_, inE, al_, a7_, au_, leV, as_, at_, V.inn, us, T9_, Ta_] <;> ((have hk : k < l.length := (by simpa using h17)); (have e := cx_ hk hI.2 (by simpa using h25) (by simpa using h41) (by simpa using h37) (.inr (by simpa using h71))); rw [e, a8_ (by omega) (by omega)]; simp)) (by simp only [go_sem, seval, av_, ai_, inE, al_, a7_, au_, leV, as_, at_, V.inn, us, T9_, Ta_]) (by simp only [go_sem, seval, av_, ai_, inE, al_, a7_, au_, leV, as_, at_, V.inn, us, T9_, Ta_] <;> ((have hk : k < l.length := (by simpa using h17)); (have e := cx_ hk hI.2 (by simpa using h25) (by simpa using h41) (by simpa using h37) (.inr (by simpa using h71))); rw [e, ni_ (F3 k hk (by simpa using h25) (by simpa using h41) (by simpa using h60)) (by simpa using h37)]; simp [d5_])))
      ·refine .skip (.rgn [] (by simp only [go_sem, seval, av_, ai_, inE, al_, a7_]; rfl) ?_ ?_)
       ·first | trivial | simp
       refine Exists.intro (k + 1) ⟨?_, ?_, ?_⟩
       ·have hk : k < l.length := (by simpa using h17); have e := dp_ hk hI.2 (by simpa using h25) (by simpa using h41) (by simpa using h37) (by simpa using h60) (by simpa using h71); exact ⟨by omega, by rw [e]; exact hI.2⟩
       ·simp at h17; omega
       exact Can.weak (Weak.lit (by simp only [go_sem, seval, av_, ai_, inE, al_, a7_, au_, leV, as_, at_, V.inn, us, T9_, Ta_] <;> ((have hk : k < l.length := (by simpa using h17)); (have e := dp_ hk hI.2 (by simpa using h25) (by simpa using h41) (by simpa using h37) (by simpa using h60) (by simpa using h71)); rw [e, a8_ (by omega) (by omega)]; simp)) (by simp only [go_sem, seval, av_, ai_, inE, al_, a7_, au_, leV, as_, at_, V.inn, us, T9_, Ta_]) (by simp only [go_sem, seval, av_, ai_, inE, al_, a7_, au_, leV, as_, at_, V.inn, us, T9_, Ta_] <;> ((have hk : k < l.length := (by simpa using h17)); (have e := dp_ hk hI.2 (by simpa using h25) (by simpa using h41) (by simpa using h37) (by simpa using h60) (by simpa using h71)); rw [e]; simp)))
 ·refine .exit (.seq (.rgn [] (by simp only [go_sem, seval, av_, ai_, inE, al_, a7_]; rfl) ?_ ?_))
  ·first | trivial | simp
  refine .ret ⟨.inr rfl, ?_⟩
  exact Out.mem' (by simp only [Tryz.results62]; rfl) (by simp only [aw_, a3_, go_sem, seval, av_, ai_, inE, al_, a7_]) (by simp only [a2_, rns, rn, go_sem, seval, av_, ai_, inE, al_, a7_] <;> (rw [ft_ hs (by simpa using h17) hI.2]; try simp)) (by simp) rfl (by decide) (by simp only [go_sem, seval, av_, ai_, inE, al_, a7_]) (by simp only [aq_, go_sem, seval, av_, ai_, inE, al_, a7_]) (by simp only [ak_, go_sem, seval, av_, ai_, inE, al_, a7_] <;> (rw [ft_ hs (by simpa using h17) hI.2]; (try simp [bv_, aa_])))
theorem ks_ (l : List Bl) (hs : e3_ l = true) (hl : l.length < 4611686018427387904) : ACall En 14 [.sl false (bLR l)] [] [.ow 0 1 0 (bw_ l).1.length, .b (bw_ l).2] [⟨3, 1, inR (bw_ l).1⟩] := by
 refine ap_ (fn := Tryz.f14) [33] Tryz.func14 rfl rfl (by simp) fun C => ?_
 rw [ay_]
 simp only [Tryz.ntmps14, T7_, List.length_nil, Nat.reduceAdd, Nat.reduceSub, List.replicate_succ, List.replicate_zero, List.cons_append, List.nil_append, bl_]
 refine .seq (.rgn [] (by simp only [go_sem, seval, ad_, ab_, ae_, aa_, ai_, al_, a7_]; rfl) ?_ ?_)
 ·first | trivial | simp
 refine .seq (.seq (.rgn [a4_ (v3_ l hs hl)] (by simp only [go_sem, seval, ad_, ab_, ae_, aa_, ai_, al_, a7_]; rfl) ?_ ?_))
 ·first | trivial | simp
 refine .condB (by simp only [go_sem, seval, ad_, ab_, ae_, aa_, ai_, al_, a7_]; rfl) (by simp only [go_sem, seval, ad_, ab_, ae_, aa_, ai_, al_, a7_]) (fun h9 => ?_) (fun h9 => ?_)
 ·refine .seq (.rgn [] (by simp only [go_sem, seval, ad_, ab_, ae_, aa_, ai_, al_, a7_]; rfl) ?_ ?_)
  ·first | trivial | simp
  refine .can (Can.ownSlot 2 33 3 1 (by simp only [go_sem, seval, ad_, ab_, ae_, aa_, ai_, al_, a7_] <;> rfl) (by simp only [go_sem, seval, ad_, ab_, ae_, aa_, ai_, al_, a7_]) (by simp only [go_sem, seval, ad_, ab_, ae_, aa_, ai_, al_, a7_] <;> rfl)) ?_
  refine .ret ⟨.inr rfl, ?_⟩
  exact Out.mem' (by simp only [Tryz.results14]; rfl) (by simp only [aw_, a3_, go_sem, seval, ad_, ab_, ae_, aa_, ai_, al_, a7_]) (by simp only [a2_, rns, rn, go_sem, seval, ad_, ab_, ae_, aa_, ai_, al_, a7_] <;> (rw [eo_ (by simpa using h9)]; simp)) (by simp) rfl (by decide) (by simp only [go_sem, seval, ad_, ab_, ae_, aa_, ai_, al_, a7_]) (by simp only [aq_, go_sem, seval, ad_, ab_, ae_, aa_, ai_, al_, a7_]) (by simp only [ak_, go_sem, seval, ad_, ab_, ae_, aa_, ai_, al_, a7_] <;> (rw [eo_ (by simpa using h9)]; simp [inR]))
 ·refine .skip (.seq (.rgn [] (by simp only [go_sem, seval, ad_, ab_, ae_, aa_, ai_, al_, a7_]; rfl) ?_ ?_))
  ·first | trivial | simp
  refine .seqJ (fun u : Unit => ⟨[.no, .no, .no, .no, .sl false (sR (l.map f8_)), .no, .no, .no, .no, .no, .no, .no, .no, .no, .no, .no, .no, .no, .no, .no, .no, .no, .no, .no, .no, .no, .no, .no, .no, .no, .no, .no, .no, .no, .no, .no, .no, .no], a1_ [], us []⟩) (fun u : Unit => True) ?_ (fun u hJ => ?_)
  ·refine .seq (.rgn [] (by simp only [go_sem, seval, ad_, ab_, ae_, aa_, ai_, al_, a7_]; rfl) ?_ ?_)
   ·first | trivial | simp
   refine .block (.loopK (fun k : Nat => ⟨[.sl false (bLR l), .no, .no, .no, .ow 60 11 0 k, .i .i64 k, .no, .no, .no, .no, .no, .no, .no, .no, .no, .no, .no, .no, .no, .no, .no, .no, .no, .no, .no, .no, .no, .no, .no, .no, .no, .no, .no, .no, .no, .no, .no, .no], a1_ [(60, ⟨55, 11, sR ((l.map f8_).take k)⟩)], us [60]⟩) (fun k : Nat => k ≤ l.length) (fun k : Nat => l.length - k) (0) ?_ ?_ (fun k hI => ?_))
   ·simp
   ·refine Can.trans (Can.ownSlot 4 60 55 11 (by simp only [go_sem, seval, ad_, ab_, ae_, aa_, ai_, al_, a7_] <;> rfl) (by simp only [go_sem, seval, ad_, ab_, ae_, aa_, ai_, al_, a7_]) (by simp only [go_sem, seval, ad_, ab_, ae_, aa_, ai_, al_, a7_] <;> rfl)) ?_
    exact Can.weak (Weak.lit (by simp only [go_sem, seval, ad_, ab_, ae_, aa_, ai_, al_, a7_, au_, leV, as_, at_, V.inn, us, T9_, Ta_] <;> (simp)) (by simp only [go_sem, seval, ad_, ab_, ae_, aa_, ai_, al_, a7_, au_, leV, as_, at_, V.inn, us, T9_, Ta_]) (by simp only [go_sem, seval, ad_, ab_, ae_, aa_, ai_, al_, a7_, au_, leV, as_, at_, V.inn, us, T9_, Ta_] <;> (simp [sR])))
   refine .seq (.seq (.rgn [] (by simp only [go_sem, seval, ad_, ab_, ae_, aa_, ai_, al_, a7_]; rfl) ?_ ?_))
   ·first | trivial | simp
   refine .condB (by simp only [go_sem, seval, ad_, ab_, ae_, aa_, ai_, al_, a7_]; rfl) (by simp only [go_sem, seval, ad_, ab_, ae_, aa_, ai_, al_, a7_]) (fun h15 => ?_) (fun h15 => ?_)
   ·refine .skip (.seq (.block (.seq (.rgn [] (by simp only [go_sem, seval, ad_, ab_, ae_, aa_, ai_, al_, a7_, fq_ (show k < l.length by simpa using h15)]; rfl) ?_ ?_))))
    ·simp at h15; simp; omega
    refine .rgn [] (by simp only [go_sem, seval, ad_, ab_, ae_, aa_, ai_, al_, a7_]; rfl) ?_ ?_
    ·have h9' : lok l = true := (by simpa using h9); have := (b2_ h9').2.1; simp [tt_, b5_, az_]; omega
    refine .rgn [] (by simp only [go_sem, seval, ad_, ab_, ae_, aa_, ai_, al_, a7_]; rfl) ?_ ?_
    ·first | trivial | simp
    refine Exists.intro (k + 1) ⟨?_, ?_, ?_⟩
    ·simp at h15; omega
    ·simp at h15; omega
    refine Can.trans (Can.swap 43 60 (by decide) (by decide) (by decide) (by decide) (by simp only [go_sem, seval, ad_, ab_, ae_, aa_, ai_, al_, a7_, V.cl]) (by simp only [go_sem, seval, ad_, ab_, ae_, aa_, ai_, al_, a7_, V.cl]) (by simp only [go_sem, seval, ad_, ab_, ae_, aa_, ai_, al_, a7_, a5_, sw, swM, rnB] <;> rfl) (by simp only [go_sem, seval, ad_, ab_, ae_, aa_, ai_, al_, a7_, a5_, sw, swM, rnB] <;> rfl) (by simp only [go_sem, seval, ad_, ab_, ae_, aa_, ai_, al_, a7_, a5_, sw, swM, rnB] <;> rfl)) ?_
    exact Can.weak (Weak.lit (by simp only [go_sem, seval, ad_, ab_, ae_, aa_, ai_, al_, a7_, au_, leV, as_, at_, V.inn, us, T9_, Ta_] <;> (rw [a8_ (by simp at h15; omega) (by simp at h15; omega)]; simp)) (by simp only [go_sem, seval, ad_, ab_, ae_, aa_, ai_, al_, a7_, au_, leV, as_, at_, V.inn, us, T9_, Ta_]) (by simp only [go_sem, seval, ad_, ab_, ae_, aa_, ai_, al_, a7_, au_, leV, as_, at_, V.inn, us, T9_, Ta_] <;> ((have hk : k < l.length := (by simpa using h15)); rw [List.take_add_one, m0_]; simp [sR, T6_ hk, al_, a7_, T8_])))
   ·refine .exit ?_
    refine Exists.intro (()) ⟨?_, ?_⟩
    ·trivial
    refine Can.trans (Can.frz 60 (by simp only [go_sem, seval, ad_, ab_, ae_, aa_, ai_, al_, a7_] <;> rfl) (by simp only [go_sem, seval, ad_, ab_, ae_, aa_, ai_, al_, a7_]) (by simp only [go_sem, seval, ad_, ab_, ae_, aa_, ai_, al_, a7_] <;> rfl) (by simp only [go_sem, seval, ad_, ab_, ae_, aa_, ai_, al_, a7_] <;> rfl)) ?_
    exact Can.weak (Weak.lit (by simp only [go_sem, seval, ad_, ab_, ae_, aa_, ai_, al_, a7_, au_, leV, as_, at_, V.inn, us, T9_, Ta_] <;> (simp at h15; (obtain rfl : k = l.length := (by omega)); simp [T1_, av_, az_, leV, bq_])) (by simp only [go_sem, seval, ad_, ab_, ae_, aa_, ai_, al_, a7_, au_, leV, as_, at_, V.inn, us, T9_, Ta_]) (by simp only [go_sem, seval, ad_, ab_, ae_, aa_, ai_, al_, a7_, au_, leV, as_, at_, V.inn, us, T9_, Ta_]))
  refine .seq (.rgn [bi_ [] [33] (rg_ l (by simpa using h9))] (by simp only [go_sem, seval, ad_, ab_, ae_, aa_, ai_, al_, a7_]; rfl) ?_ ?_)
  ·first | trivial | simp
  refine .ret ⟨.inr rfl, ?_⟩
  exact Out.mem' (by simp only [Tryz.results14]; rfl) (by simp only [aw_, a3_, go_sem, seval, ad_, ab_, ae_, aa_, ai_, al_, a7_]) (by simp only [a2_, rns, rn, go_sem, seval, ad_, ab_, ae_, aa_, ai_, al_, a7_] <;> (rfl)) (by simp) rfl (by decide) (by simp only [go_sem, seval, ad_, ab_, ae_, aa_, ai_, al_, a7_]) (by simp only [aq_, go_sem, seval, ad_, ab_, ae_, aa_, ai_, al_, a7_]) (by simp only [ak_, go_sem, seval, ad_, ab_, ae_, aa_, ai_, al_, a7_] <;> (simp [bv_, aa_]))
theorem nk_ (l : List Bl) (hs : e3_ l = true) (hl : l.length < 4611686018427387904) : ACall En 14 [.sl false (bLR l)] [] [.sl false (inR (bw_ l).1), .b (bw_ l).2] [] :=
 ACall.frz1 (ks_ l hs hl) (by simp [de_, frz, ah_, T1_])
end
end Go.Proofs.YtpikbndepapbhabGreatDoor
