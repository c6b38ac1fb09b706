/- Plain laws: what lines come to. Conditions: none. -/
import Derived.Test.YtcigkafioinfoaaGreatDoorKc
import Derived.RangeFuncBox
import Derived.RangeFuncLeaves
import Derived.Shelf.Abstract
import Derived.WalkKit
import Derived.OwnWalkIn
import Derived.TacticsInMore
import Derived.LoopNIn
import Derived.LoopIn
import Derived.Test.YtcigkafioinfoaaGreatDoorKe
import Derived.Test.YtcigkafioinfoaaGreatDoorKx
import Derived.Test.YtcigkafioinfoaaGreatDoorKb
set_option linter.unusedVariables false
set_option linter.unusedSimpArgs false
namespace Go.Proofs.YtcigkafioinfoaaGreatDoor
section
def qv_ (n : Int) : Int := max (-1000000) (min 1000000 n)
def kc_ (l : List Str) : Nat → Str → Int
 | 0, _ => -1
 | k + 1, s => if l.getD k [] = s then (k : Int) else kc_ l k s
def ix_ (l : List Str) (s : Str) : Int := kc_ l l.length s
theorem wf_ (l : List Str) (s : Str) : ∀ k, -1 ≤ kc_ l k s ∧ kc_ l k s < k
 | 0 => by simp [kc_]
 | k + 1 => by
  have := wf_ l s k
  simp only [kc_]; split <;> omega
theorem adk_ (l : List Str) (s : Str) : -1 ≤ ix_ l s ∧ ix_ l s < l.length := wf_ l s l.length
def twI (s : Str) (a b : Int) : Int := if s = [43] then qv_ (a + b) else if s = [45] then qv_ (a - b) else if s = [42] then qv_ (a * b) else if a < b then 1 else 0
def pv_ (s : Str) (x y : Int × Bool) : Int × Bool := if x.2 && y.2 then (twI s x.1 y.1, true) else (0, false)
mutual
def rk : E → List Str → List Int → Int × Bool
 | .mk k n s kids, N, M =>
  if k = 1 then (n, true)
  else if k = 2 then (if ix_ N s < 0 then (0, false) else (qv_ (M.getD (ix_ N s).toNat 0), true))
  else if k = 4 then rkA kids N M
  else pv_ s (rkA kids N M) (rkB kids N M)
def rkA : List E → List Str → List Int → Int × Bool
 | [], _, _ => (0, false)
 | e :: _, N, M => rk e N M
def rkB : List E → List Str → List Int → Int × Bool
 | [], _, _ => (0, false)
 | _ :: r, N, M => rkA r N M
end
theorem aeb_ {e : E} (h : e.kind = 1) (N : List Str) (M : List Int) : rk e N M = (e.n, true) := by
 cases e; simp only [E.kind] at h; subst h; simp [rk, E.n]
theorem zt_ {e : E} (h : e.kind = 2) (N : List Str) (M : List Int) : rk e N M = (if ix_ N e.s < 0 then (0, false) else (qv_ (M.getD (ix_ N e.s).toNat 0), true)) := by
 cases e; simp only [E.kind] at h; subst h; simp [rk, E.s]
theorem ahb_ {e : E} (h : e.kind = 4) (hk : e.kids.length = 1) (N : List Str) (M : List Int) : rk e N M = rk (e.kids.getD 0 E0) N M := by
 cases e with
 | mk k n s kids =>
  simp only [E.kind, E.kids] at h hk ⊢
  subst h
  match kids, hk with
  | [x], _ => simp [rk, rkA]
theorem uc_ {e : E} (h : e.kind = 3) (hk : e.kids.length = 2) (N : List Str) (M : List Int) : rk e N M = pv_ e.s (rk (e.kids.getD 0 E0) N M) (rk (e.kids.getD 1 E0) N M) := by
 cases e with
 | mk k n s kids =>
  simp only [E.kind, E.kids, E.s] at h hk ⊢
  subst h
  match kids, hk with
  | [x, y], _ => simp [rk, rkA, rkB]
theorem z7_ (n : Int) : -1000000 ≤ qv_ n ∧ qv_ n ≤ 1000000 := by unfold qv_; omega
theorem ak9_ (s : Str) (a b : Int) : -1000000 ≤ twI s a b ∧ twI s a b ≤ 1000000 := by
 unfold twI
 have := z7_
 split
 ·exact this _
 ·split
  ·exact this _
  ·split
   ·exact this _
   ·split <;> omega
theorem akz_ (d : Nat) : ∀ (e : E) (N : List Str) (M : List Int), form e d = true → -1000000 ≤ (rk e N M).1 ∧ (rk e N M).1 ≤ 1000000 := by
 induction d with
 | zero => intro e N M h; have := (bl_ h).1; omega
 | succ d ih =>
  intro e N M h
  have e1 : ((d + 1 : Nat) : Int) - 1 = (d : Int) := by omega
  rcases (bl_ h).2 with ⟨k1, h1, h2, h3, h4⟩ | ⟨k1, _⟩ | ⟨k1, h1, h2, h3, h4, h5⟩ | ⟨k1, h1, h2, h3, h4⟩
  ·rw [aeb_ k1]; dsimp only; omega
  ·rw [zt_ k1]; split
   ·exact ⟨by decide, by decide⟩
   ·exact z7_ _
  ·rw [uc_ k1 h3]; unfold pv_; split
   ·exact ak9_ _ _ _
   ·exact ⟨by decide, by decide⟩
  ·rw [ahb_ k1 h3]; exact ih _ _ _ (by rw [e1] at h4; exact h4)
def ed_ (b : Bl) (N : List Str) (M : List Int) : Int × Int × Bool :=
 if (rk b.expr N M).2 = true ∧ b.kind = 3 then ((rk b.expr N M).1, (rk b.thn N M).1, (rk b.thn N M).2) else ((rk b.expr N M).1, (rk b.expr N M).1, (rk b.expr N M).2)
structure Rs where
 names : List Str
 nums : List Int
 said : List Int
 ok : Bool
def d7_ (r : Rs) (b : Bl) : Rs :=
 if r.ok = false then r
 else if b.kind = 0 then r
 else if (ed_ b r.names r.nums).2.2 = false then { r with ok := false }
 else if b.kind = 1 then { r with names := r.names ++ [b.name], nums := r.nums ++ [(ed_ b r.names r.nums).1] }
 else if b.kind = 2 ∨ (ed_ b r.names r.nums).1 ≠ 0 then { r with said := r.said ++ [(ed_ b r.names r.nums).2.1] }
 else r
def bt_ (l : List Bl) : Rs := l.foldl d7_ ⟨[], [], [], true⟩
def lok (l : List Bl) : Bool := decide (1 ≤ l.length) && decide (l.length ≤ 16) && l.all bok
def k1_ (l : List Bl) : List Int × Bool := if lok l then ((bt_ l).said, (bt_ l).ok) else ([], false)
theorem af3_ {r : Rs} (h : r.ok = false) (b : Bl) : d7_ r b = r := by simp [d7_, h]
theorem wo_ : ∀ (l : List Bl) (r : Rs), r.ok = false → l.foldl d7_ r = r
 | [], _, _ => rfl
 | b :: l, r, h => by rw [List.foldl_cons, af3_ h]; exact wo_ l r h
theorem ac4_ {r : Rs} (b : Bl) (h : r.names.length = r.nums.length) : (d7_ r b).names.length = (d7_ r b).nums.length ∧ (d7_ r b).names.length ≤ r.names.length + 1 ∧ (d7_ r b).said.length ≤ r.said.length + 1 := by
 unfold d7_
 split
 ·exact ⟨h, by omega, by omega⟩
 split
 ·exact ⟨h, by omega, by omega⟩
 split
 ·exact ⟨h, by dsimp only; omega, by dsimp only; omega⟩
 split
 ·simp [h]
 split
 ·simp [h]
 ·exact ⟨h, by omega, by omega⟩
theorem fy_ {l : List Bl} {k : Nat} (h : k < l.length) : bt_ (l.take (k + 1)) = d7_ (bt_ (l.take k)) (l.getD k B0) := by
 unfold bt_
 rw [List.take_add_one, T6_ h, List.foldl_append, T8_, T6_ h]; rfl
theorem u5_ (l : List Bl) : ∀ k, k ≤ l.length → (bt_ (l.take k)).names.length = (bt_ (l.take k)).nums.length ∧ (bt_ (l.take k)).names.length ≤ k ∧ (bt_ (l.take k)).said.length ≤ k
 | 0, _ => by simp [bt_]
 | k + 1, h => by
  have := u5_ l k (by omega)
  have h2 := ac4_ (l.getD k B0) this.1
  rw [fy_ (by omega)]
  omega
theorem rt_ {l : List Bl} {k : Nat} (hk : k ≤ l.length) (h : (bt_ (l.take k)).ok = false) : bt_ l = bt_ (l.take k) := by
 conv => lhs; rw [← List.take_append_drop k l]
 unfold bt_ at h ⊢
 rw [List.foldl_append]
 exact wo_ _ _ h
end
section
open Go.RowKit Go.Shelf
attribute [local go_sem] Oper.semAt_some
def hl_ {α : Type} (f : Nat → α) (n m : Nat) : List α := (((List.range n).drop m).reverse).map f
theorem st_ {α : Type} (f : Nat → α) (n : Nat) : hl_ f n n = [] := by simp [hl_]
theorem pt_ {α : Type} (f : Nat → α) {n j : Nat} (h : j < n) : hl_ f n j = hl_ f n (j + 1) ++ [f j] := by
 unfold hl_
 rw [List.drop_eq_getElem_cons (by simpa using h)]
 simp
theorem abv_ {α : Type} (f : Nat → α) (n m : Nat) : (hl_ f n m).length = n - m := by simp [hl_]
theorem ss_ {α : Type} (f : Nat → α) {n m j : Nat} (h1 : m ≤ j) (h2 : j < n) : f j ∈ hl_ f n m := by
 simp only [hl_, List.mem_map, List.mem_reverse]
 refine ⟨j, List.mem_iff_getElem?.2 ⟨j - m, ?_⟩, rfl⟩
 rw [List.getElem?_drop, List.getElem?_range (by omega)]; congr 1; omega
abbrev kl_ (s : Str) : Value := .string ⟨s.toArray⟩
abbrev bkE (x : Int × Str) : Array Value := #[.int .i64 x.1, kl_ x.2]
abbrev bkF (l : List Str) (j : Nat) : Int × Str := ((j : Int), l.getD j [])
set_option maxRecDepth 100000 in
set_option maxHeartbeats 4000000 in
theorem ad0_ (F : Fence) (n : Nat) (h7 : F.fn 237) (hro : F.round = none) (hn : 1 ≤ n) (l Bs n₀ b off cap : Nat) (zs : List Str) (hreach : zs.length * 16 ≤ 140737488351232) (hb : b < n₀) (J Jx : List (Int × Str) → World → Prop)
  (hY : ∀ pre x W, J pre W → pre.length < zs.length → YieldAt F (n - 1) Tryz.prog l (bkE x) W fun e W' =>
   (e = .returned (.bool true) ∧ J (pre ++ [x]) W' ∧ Below n₀ W W') ∨ (e = .returned (.bool false) ∧ Jx (pre ++ [x]) W'))
  (W : World) (hBn : Bs < n₀) (hBs : W.cell? ⟨Bs, 0, none⟩ = some (.slice (some ⟨b, off, none⟩) zs.length cap)) (hc : ∀ j, j < zs.length → W.cell? ⟨b, off + j, none⟩ = some (kl_ (zs.getD j []))) (h0 : J [] W) :
  CallsIn F n Tryz.prog 237 #[.func (.yield l) #[] #[], .pointer (some ⟨Bs, 0, none⟩)] W fun e W' => (∃ v, e = .returned v) ∧
   ((∃ ys, ys = hl_ (bkF zs) zs.length 0 ∧ J ys W') ∨ (∃ pre, (∃ k, k ≤ zs.length ∧ pre = hl_ (bkF zs) zs.length k) ∧ Jx pre W')) := by
 refine callsIn_of_wp Tryz.func237 rfl h7 ?_ hro
 simp only [Tryz.ntmps237, List.size_toArray, T7_, List.length_nil, Nat.reduceAdd, Nat.reduceSub, Array.replicate_succ, Array.replicate_zero, List.push_toArray, List.append_toArray, List.nil_append, List.cons_append]
 gi_wp2
 gi_loopw [3] (fun i wr => ∃ m : Nat, m ≤ zs.length ∧ i = .int .i64 ((m : Int) - 1) ∧ J (hl_ (bkF zs) zs.length m) wr ∧ Below n₀ W wr)
  (fun i _ => (intOf i + 1).toNat)
 case atStart => exact ⟨zs.length, Nat.le_refl _, by first | rfl | simp [bi_ (show -9223372036854775808 ≤ (zs.length : Int) - 1 by omega) (by omega)], by rw [st_]; exact h0, Below.refl _ _⟩
 case round =>
  obtain ⟨m, hk, rfl, hJs, hnx⟩ := hrel
  have hBx : wr.cell? ⟨Bs, 0, none⟩ = some (.slice (some ⟨b, off, none⟩) zs.length cap) := (hnx.cell (p := ⟨Bs, 0, none⟩) hBn).trans hBs
  cases m with
  | zero =>
   gi_wp2
   go_end0
   exact ⟨⟨_, rfl⟩, .inl ⟨_, rfl, hJs⟩⟩
  | succ j =>
   have hi : (((j + 1 : Nat) : Int) - 1) = (j : Int) := by omega
   rw [hi]
   have hcx : wr.cell? ⟨b, off + j, none⟩ = some (kl_ (zs.getD j [])) := (hnx.cell (p := ⟨b, off + j, none⟩) hb).trans (hc j (by omega))
   have hjl : j < zs.length := by omega
   have hst := pt_ (bkF zs) hjl
   simp only [bkF] at hst
   generalize zs.getD j [] = v at hcx hst
   obtain ⟨fn, tmps, assign, body, hy, hR⟩ := hY _ ((j : Int), v) wr hJs (by rw [abv_]; omega)
   dsimp only [bkE] at hy
   gi_wp2
   refine hR.mono ?_
   rintro e W3 (⟨rfl, hJ3, hk3⟩ | ⟨rfl, hJx3⟩)
   ·gi_wp2
    go_roundw
    case rel => exact ⟨j, by omega, by simp, by rw [hst]; exact hJ3, hnx.trans hk3⟩
    case measure => simp [intOf] <;> omega
   ·gi_wp2
    refine bodyPost_ret (results_none rfl _ _ _) rfl ?_
    exact ⟨⟨_, rfl⟩, .inr ⟨_, ⟨j, by omega, hst.symm⟩, hJx3⟩⟩
theorem akf_ (F : Fence) (n : Nat) (h5 : F.fn 195) (hro : F.round = none) (a : Option Addr) (len cap : Nat) (w : World) :
  CallsIn F n Tryz.prog 195 #[.slice a len cap] w fun e w' => e = .returned (.func (.func 237) #[] #[.pointer (some ⟨w.heap.size, 0, none⟩)]) ∧ w' = w.alloc (.cells #[.slice a len cap] 88) := by
 refine callsIn_of_wp Tryz.func195 rfl h5 ?_ hro
 simp only [Tryz.ntmps195, List.size_toArray, T7_, List.length_nil, Nat.reduceAdd, Nat.reduceSub, Array.replicate_succ, Array.replicate_zero, List.push_toArray, List.append_toArray, List.nil_append, List.cons_append]
 gi_wp2
 go_ret
 exact ⟨rfl, rfl⟩
set_option maxRecDepth 100000 in
set_option maxHeartbeats 1000000 in
theorem uk_ (F : Fence) (n : Nat) (h7 : F.fn 237) (hro : F.round = none) (l Bs : Nat) (a : Option Addr) (cap : Nat) (J : List (Int × Str) → World → Prop) (W : World) (hBs : W.cell? ⟨Bs, 0, none⟩ = some (.slice a 0 cap)) (h0 : J [] W) :
  CallsIn F n Tryz.prog 237 #[.func (.yield l) #[] #[], .pointer (some ⟨Bs, 0, none⟩)] W fun e W' => (∃ v, e = .returned v) ∧ J [] W' := by
 refine callsIn_of_wp Tryz.func237 rfl h7 ?_ hro
 simp only [Tryz.ntmps237, List.size_toArray, T7_, List.length_nil, Nat.reduceAdd, Nat.reduceSub, Array.replicate_succ, Array.replicate_zero, List.push_toArray, List.append_toArray, List.nil_append, List.cons_append]
 gi_wp2
 gi_loopw [3] (fun i wr => i = .int .i64 (-1) ∧ J [] wr) (fun _ _ => 0)
 case atStart => exact ⟨rfl, h0⟩
 case round =>
  obtain ⟨rfl, hJs⟩ := hrel
  gi_wp2
  go_end0
  exact ⟨⟨_, rfl⟩, hJs⟩
def StrsAt (n₀ : Nat) (W : World) (sv : Value) (zs : List Str) : Prop :=
 ∃ A cap, sv = .slice A zs.length cap ∧ (zs ≠ [] → ∃ b off, A = some ⟨b, off, none⟩ ∧ b < n₀ ∧ ∀ j, j < zs.length → W.cell? ⟨b, off + j, none⟩ = some (kl_ (zs.getD j [])))
theorem StrsAt.below {n₀ : Nat} {A B : World} (h : Below n₀ A B) {sv : Value} {zs : List Str} : StrsAt n₀ A sv zs → StrsAt n₀ B sv zs
 | ⟨a, cap, e, k⟩ => ⟨a, cap, e, fun hne => let ⟨b, off, e2, hb, hc⟩ := k hne; ⟨b, off, e2, hb, fun j hj => (h.cell (p := ⟨b, off + j, none⟩) hb).trans (hc j hj)⟩⟩
theorem yx_ (F : Fence) (n : Nat) (h7 : F.fn 237) (hro : F.round = none) (hn : 1 ≤ n) (Bs n₀ : Nat) (sv : Value) (zs : List Str) (hreach : zs.length * 16 ≤ 140737488351232) (w : World) (hBs : Bs < w.heap.size) (hn₀ : n₀ ≤ w.heap.size) (hBn : Bs < n₀)
  (hc : w.cell? ⟨Bs, 0, none⟩ = some sv) (hI : StrsAt n₀ w sv zs) :
  SeqStopsK F n Tryz.prog 237 #[.pointer (some ⟨Bs, 0, none⟩)] bkE (Below n₀) (fun ys => ys = hl_ (bkF zs) zs.length 0) (fun pre => ∃ k, k ≤ zs.length ∧ pre = hl_ (bkF zs) zs.length k) zs.length w := fun l J Jx W hW _ _ hY h0 => by
 have hc' := (hW.cell (p := ⟨Bs, 0, none⟩) hBs).trans hc
 obtain ⟨A, cap, rfl, hne⟩ := hI.below (hW.mono hn₀)
 by_cases hz : zs = []
 ·subst hz
  exact (uk_ F n h7 hro l Bs A cap J W hc' h0).mono fun e W' ⟨he, hj⟩ => ⟨he, .inl ⟨_, rfl, hj⟩⟩
 ·obtain ⟨b, off, rfl, hb, hcs⟩ := hne hz
  exact ad0_ F n h7 hro hn l Bs n₀ b off cap zs hreach hb J Jx hY W hBn hc' hcs h0
theorem q3_ {l : List Str} {s : Str} {m : Nat} (hm : l.getD m [] = s) : ∀ n, m < n → (∀ j, m < j → j < n → l.getD j [] ≠ s) → kc_ l n s = m
 | 0, h, _ => by omega
 | n + 1, h, hh => by
  simp only [kc_]
  by_cases e : m = n
  ·subst e; rw [if_pos hm]
  ·rw [if_neg (hh n (by omega) (by omega))]
   exact q3_ hm n (by omega) fun j h1 h2 => hh j h1 (by omega)
theorem qb_ {l : List Str} {s : Str} : ∀ n, (∀ j, j < n → l.getD j [] ≠ s) → kc_ l n s = -1
 | 0, _ => rfl
 | n + 1, h => by
  simp only [kc_]
  rw [if_neg (h n (by omega))]
  exact qb_ n fun j hj => h j (by omega)
set_option maxRecDepth 100000 in
set_option maxHeartbeats 4000000 in
theorem ai3_ (F : Fence) (n : Nat) (h4 : F.fn 141) (h6 : F.fn 195) (h8 : F.fn 237) (hro : F.round = none) (hn : 3 ≤ n) (a : Option Addr) (cap : Nat) (zs : List Str) (s : Str) (hreach : zs.length * 16 ≤ 140737488351232) (w : World) (hI : StrsAt w.heap.size w (.slice a zs.length cap) zs) :
  CallsIn F n Tryz.prog 141 #[.slice a zs.length cap, kl_ s] w fun e W' => e = .returned (.int .i64 (ix_ zs s)) ∧ Below w.heap.size w W' := by
 have h1 : 1 ≤ n := by omega
 refine callsIn_of_wp_marks Tryz.func141 rfl h4 ?_ hro
 simp only [Tryz.ntmps141, List.size_toArray, T7_, List.length_nil, Nat.reduceAdd, Nat.reduceSub, Array.replicate_succ, Array.replicate_zero, List.push_toArray, List.append_toArray, List.nil_append, List.cons_append]
 gi_wp2_with (gi_at_call 195; refine (akf_ F (n - 1) h6 hro _ _ _ _).mono ?_; rintro e w' ⟨rfl, rfl⟩)
 have bS := Boxed.new w 9 (kl_ s)
 have bR := Boxed.new (w.alloc (.cells #[kl_ s] 9)) 3 (.int .i64 0)
 rw [World.size_alloc] at bR
 have bN := Boxed.new ((w.alloc (.cells #[kl_ s] 9)).alloc (.cells #[.int .i64 0] 3)) 88 (.slice a zs.length cap)
 rw [World.size_alloc, World.size_alloc] at bN
 have hB0 : Below w.heap.size w (((w.alloc (.cells #[kl_ s] 9)).alloc (.cells #[.int .i64 0] 3)).alloc (.cells #[.slice a zs.length cap] 88)) := (((Below.refl _ w).alloc (Nat.le_refl _) _).alloc (by simp) _).alloc (by simp only [World.size_alloc]; omega) _
 have hI3 : StrsAt (w.heap.size + 1 + 1 + 1) (((w.alloc (.cells #[kl_ s] 9)).alloc (.cells #[.int .i64 0] 3)).alloc (.cells #[.slice a zs.length cap] 88)) (.slice a zs.length cap) zs := by
  obtain ⟨A, c, e, k⟩ := hI.below hB0
  exact ⟨A, c, e, fun hne => let ⟨b, off, e2, hb, hc⟩ := k hne; ⟨b, off, e2, by omega, hc⟩⟩
 refine wpIn_rangeFunc_ownG hro h1 (gf := 237) (lb := #[.pointer (some ⟨w.heap.size + 1 + 1, 0, none⟩)]) rfl h8 (enters_of Tryz.func237 (by kernel_rfl) rfl)
  (yx_ F (n - 1) h8 hro (by omega) (w.heap.size + 1 + 1) (w.heap.size + 1 + 1 + 1) _ zs hreach _ (by simp) (by simp) (by omega) bN.cell hI3) belowK_t (belowK_b (by simp)) (Below.refl _ _) (fun _ => rfl)
  (fun pre W => ((∀ p ∈ pre, p.2 ≠ s) ∧ (W.cell? ⟨w.heap.size, 0, none⟩ = some (kl_ s) ∧ W.frozen? ⟨w.heap.size, 0, none⟩ = false) ∧ W.cell? ⟨w.heap.size + 1, 0, none⟩ = some (.int .i64 0) ∧ W.frozen? ⟨w.heap.size + 1, 0, none⟩ = false) ∧ Below w.heap.size w W)
  (fun c pre W => (c = .ret ∧ ∃ ini last, pre = ini ++ [last] ∧ (∀ p ∈ ini, p.2 ≠ s) ∧ last.2 = s ∧ W.cell? ⟨w.heap.size + 1, 0, none⟩ = some (.int .i64 last.1)) ∧ Below w.heap.size w W)
  (OwnFrom.and (Own.from (fun s A B row hs hg hr => ⟨hs.1, ⟨cell_kept hs.2.1.1 hg hr, (frozen_kept hs.2.1.1 hg hr).trans hs.2.1.2⟩, cell_kept hs.2.2.1 hg hr, (frozen_kept hs.2.2.1 hg hr).trans hs.2.2.2⟩) _) (ownFrom_below (Nat.le_refl _) (by simp; omega)))
  (fun c => OwnFrom.and (Own.from (fun s A B row hs hg hr => by obtain ⟨hc, ini, last, e1, e2, e3, e4⟩ := hs; exact ⟨hc, ini, last, e1, e2, e3, cell_kept e4 hg hr⟩) _) (ownFrom_below (Nat.le_refl _) (by simp; omega)))
  ⟨⟨by simp, ⟨((bS.alloc _).alloc _).cell, ((bS.alloc _).alloc _).frozen⟩, (bR.alloc _).cell, (bR.alloc _).frozen⟩, hB0⟩
  (fun x => { tmps := #[.slice a zs.length cap, kl_ s, undef, .pointer (some ⟨w.heap.size, 0, none⟩), .pointer (some ⟨w.heap.size + 1, 0, none⟩), .int .i64 x.1, kl_ x.2, .slice a zs.length cap, .func (.func 237) #[] #[.pointer (some ⟨w.heap.size + 1 + 1, 0, none⟩)], .int .i64 x.1, kl_ x.2, undef, undef, undef, undef], defers := [] }) ?assign ?body ?done ?stop
 case assign =>
  intro l x W K hK
  gi_wp2
  exact hK
 case body =>
  rintro l pre ⟨x1, x2⟩ W ⟨⟨hp, ⟨hcs, hfs⟩, hcr, hfr⟩, hB⟩ _
  gi_wp2
  ·have hx : (x2 == s) = true := by assumption
   exact ⟨(KeepsOthers.setCell _ _ _).from _, ⟨rfl, pre, (x1, x2), rfl, hp, by simpa using hx, World.cell?_setCell_same' _ _ _ (by rw [hcr]; rfl)⟩, hB.setCell (p := ⟨w.heap.size + 1, 0, none⟩) (by simp) _⟩
  ·have hx : (x2 == s) = false := by assumption
   exact ⟨KeepsFrom.refl _ _, Below.refl _ _, ⟨fun p hp' => (List.mem_append.1 hp').elim (hp p) (fun e => by simp at e; subst e; simpa using hx), ⟨hcs, hfs⟩, hcr, hfr⟩, hB⟩
 case done =>
  rintro D ys W hD rfl ⟨⟨hne, _, hcr, hfr⟩, hB⟩ hK
  gi_wp2
  have hK' := (KeepsOthers.setCell W ⟨w.heap.size + 1, 0, none⟩ (.int .i64 (-1))).same D _ hK rfl
  refine ⟨by simp, .inl ⟨_, _, rfl, run_takeDeferred hK', ?_⟩⟩
  have hc5 := cell_kept (World.cell?_setCell_same' W ⟨w.heap.size + 1, 0, none⟩ (.int .i64 (-1)) (by rw [hcr]; rfl)) (grownBy_putObj' _ D (.deferred none)) (fun r e => by cases e; exact ⟨_, hK', rfl⟩)
  refine ⟨.int .i64 (-1), ?_, ?_, (hB.setCell (p := ⟨w.heap.size + 1, 0, none⟩) (by simp) _).trans (belowK_b (w := w) (Nat.le_refl _) _ D _ _ (by simp at hD; omega) hK' rfl rfl)⟩
  ·simp [results, Tryz.f141, go_sem, hc5]
  ·rw [show ix_ zs s = -1 from qb_ _ fun j hj => hne (bkF zs j) (ss_ _ (Nat.zero_le _) hj)]
 case stop =>
  rintro D c pre W hD ⟨m, hk, rfl⟩ ⟨⟨rfl, ini, last, e1, e2, e3, hcr⟩, hB⟩ hK
  gi_wp2
  refine ⟨by simp, .inl ⟨_, _, rfl, run_takeDeferred hK, ?_⟩⟩
  have hc5 := cell_kept hcr (grownBy_putObj' _ D (.deferred none)) (fun r e => by cases e; exact ⟨_, hK, rfl⟩)
  have hml : m < zs.length := by
   rcases Nat.lt_or_ge m zs.length with h | h
   ·exact h
   ·obtain rfl : m = zs.length := by omega
    rw [st_] at e1; simp at e1
  rw [pt_ _ hml] at e1
  obtain ⟨rfl, e5⟩ := List.append_inj' e1 rfl
  obtain rfl : bkF zs m = last := by simpa using e5
  refine ⟨.int .i64 (m : Int), ?_, ?_, hB.trans (belowK_b (w := w) (Nat.le_refl _) W D _ _ (by simp at hD; omega) hK rfl rfl)⟩
  ·simp [results, Tryz.f141, go_sem, hc5]
  ·rw [show ix_ zs s = m from q3_ e3 _ hml fun j h1 h2 => e2 (bkF zs j) (ss_ _ h1 h2)]
theorem v7_ {φ : Phi} {S : Nat → Prop} {w : World} {z : Nat} : ∀ {l : List Str} {xs : List Value}, VRr φ S w z (bo_ l) xs → xs = l.map kl_
 | [], xs, h => by simpa [bo_, VRr] using h
 | s :: l, xs, h => by
  simp only [bo_, List.map_cons, VRr] at h
  obtain ⟨ys, zs, rfl, _, h2, _, h3⟩ := h
  simp only [VRs, VR] at h2
  obtain ⟨x, r, rfl, rfl, rfl⟩ := h2
  rw [v7_ h3]; rfl
theorem ams_ (l : List Str) (s : Str) (hl : l.length ≤ 1000000000000) : ACall En 141 [.sl false (bo_ l), .s s] [] [.i .i64 (ix_ l s)] [] := by
 refine f4_ (fn := Tryz.f141) Tryz.func141 rfl rfl fun S w xs hx _ _ => ?_
 simp only [VRs, VR] at hx
 obtain ⟨x, r, e1, ⟨A, c, z, ys, rfl, h2, h3, h4, h5, h6⟩, y, q, rfl, rfl, rfl⟩ := hx
 obtain rfl : xs = #[.slice A (bo_ l).length c, .string ⟨s.toArray⟩] := by apply Array.ext'; simpa using e1
 rw [ab_] at *
 have hv := v7_ h6
 have hI : StrsAt w.heap.size w (.slice A l.length c) l := by
  refine ⟨A, c, rfl, fun hne => ?_⟩
  obtain ⟨g, o, rfl, _, hg, hcell⟩ := h5 (by rw [hv]; simpa using hne)
  refine ⟨g, o, rfl, hg, fun j hj => hcell j _ ?_⟩
  rw [hv, List.getElem?_map, T6_ hj, T8_, T6_ hj]; rfl
 refine (callsIn_wide (n := 3)).1 ((ai3_ _ 3 trivial trivial trivial rfl (by omega) A c l s (by omega) w hI).mono ?_)
 rintro e w' ⟨rfl, h⟩
 exact ⟨[_], rfl, h, .cons (by simp only [VR]) .nil⟩
end
section
set_option maxRecDepth 100000
set_option maxHeartbeats 4000000
theorem aad_ (n : Int) : ACall En 142 [.i .i64 n] [] [.i .i64 (qv_ n)] [] := by
 refine aj_ (fn := Tryz.f142) [] Tryz.func142 rfl rfl (by simp) fun C => ?_
 rw [ay_]
 simp only [Tryz.ntmps142, T7_, List.length_nil, Nat.reduceAdd, Nat.reduceSub, List.replicate_succ, List.replicate_zero, List.cons_append, List.nil_append, bu_]
 refine .seq (.rgn [] (by simp only [go_sem, seval]; rfl) ?_ ?_)
 ·first | trivial | simp
 refine .seq (.rgn [] (by simp only [go_sem, seval]; rfl) ?_ ?_)
 ·first | trivial | simp
 refine .ret ⟨.inr rfl, ?_⟩
 exact Out.plain (by simp only [Tryz.results142]; rfl) (by simp only [az_, bc_, go_sem, seval] <;> (split <;> rfl)) (by simp only [bb_, go_sem, seval] <;> (simp only [List.cons.injEq, V.i.injEq, and_true, true_and]; unfold qv_; by_cases h : n < 1000000 <;> simp only [h, if_true, if_false] <;> split <;> omega)) (by simp only [go_sem, seval])
theorem amg_ (a b : Int) (ha : -1000000 ≤ a ∧ a ≤ 1000000) (hb : -1000000 ≤ b ∧ b ≤ 1000000) : -1000000000000 ≤ a * b ∧ a * b ≤ 1000000000000 := by
 have h1 : (a * b).natAbs ≤ 1000000 * 1000000 := by rw [Int.natAbs_mul]; exact Nat.mul_le_mul (by omega) (by omega)
 omega
theorem k3_ (d : Nat) : ∀ (e : E) (N : List Str) (M : List Int), form e d = true → N.length = M.length → N.length ≤ 1000000 → ACall En 78 [.ag (eC e), .sl false (bo_ N), .sl false (inR M)] [] [.i .i64 (rk e N M).1, .b (rk e N M).2] [] := by
 induction d with
 | zero => intro e N M h; have := (bl_ h).1; omega
 | succ d ih =>
 intro e N M h hl hn
 have e1 : ((d + 1 : Nat) : Int) - 1 = (d : Int) := by omega
 have g3 : e.kind = 3 → e.kids.length = 2 ∧ form (e.kids.getD 0 E0) d = true ∧ form (e.kids.getD 1 E0) d = true ∧ fg_ e.s = true := fun hk => by
  rcases (bl_ h).2 with ⟨k1, _⟩ | ⟨k1, _⟩ | ⟨k1, h1, h2, h3, h4, h5⟩ | ⟨k1, _⟩ <;> try omega
  rw [e1] at h4 h5; exact ⟨h3, h4, h5, h2⟩
 have g4 : e.kind = 4 → e.kids.length = 1 ∧ form (e.kids.getD 0 E0) d = true := fun hk => by
  rcases (bl_ h).2 with ⟨k1, _⟩ | ⟨k1, _⟩ | ⟨k1, _⟩ | ⟨k1, h1, h2, h3, h4⟩ <;> try omega
  rw [e1] at h4; exact ⟨h3, h4⟩
 have g0 : ¬ e.kind = 1 → ¬ e.kind = 2 → ¬ e.kind = 4 → e.kind = 3 := fun a b c => by
  rcases (bl_ h).2 with ⟨k1, _⟩ | ⟨k1, _⟩ | ⟨k1, _⟩ | ⟨k1, _⟩ <;> omega
 have hb := adk_ N e.s
 have Q : e.kind = 3 → (-1000000 ≤ (rk (e.kids.getD 0 E0) N M).1 ∧ (rk (e.kids.getD 0 E0) N M).1 ≤ 1000000) ∧ (-1000000 ≤ (rk (e.kids.getD 1 E0) N M).1 ∧ (rk (e.kids.getD 1 E0) N M).1 ≤ 1000000) := fun hk =>
  ⟨akz_ d _ N M (g3 hk).2.1, akz_ d _ N M (g3 hk).2.2.1⟩
 have P := fun hk => amg_ _ _ (Q hk).1 (Q hk).2
 have R1 := @aeb_ e
 have R2 := @zt_ e
 have R3 : e.kind = 3 → rk e N M = pv_ e.s (rk (e.kids.getD 0 E0) N M) (rk (e.kids.getD 1 E0) N M) := fun hk => uc_ hk (g3 hk).1 N M
 have R4 : e.kind = 4 → rk e N M = rk (e.kids.getD 0 E0) N M := fun hk => ahb_ hk (g4 hk).1 N M
 refine aj_ (fn := Tryz.f78) [] Tryz.func78 rfl rfl (by simp) fun C => ?_
 rw [ay_]
 simp only [Tryz.ntmps78, T7_, List.length_nil, Nat.reduceAdd, Nat.reduceSub, List.replicate_succ, List.replicate_zero, List.cons_append, List.nil_append, bu_]
 refine .seq (.rgn [] (by simp only [go_sem, seval, ae_, ac_]; rfl) ?_ ?_)
 ·first | trivial | simp
 refine .seq (.seq (.rgn [] (by simp only [go_sem, seval, ae_, ac_]; rfl) ?_ ?_))
 ·first | trivial | simp
 refine .block (.seq (.rgn [] (by simp only [go_sem, seval, ae_, ac_]; rfl) ?_ ?_))
 ·first | trivial | simp
 refine .condB (by simp only [go_sem, seval, ae_, ac_]; rfl) (by simp only [go_sem, seval, ae_, ac_]) (fun h15 => ?_) (fun h15 => ?_)
 ·refine .seq (.rgn [] (by simp only [go_sem, seval, ae_, ac_]; rfl) ?_ ?_)
  ·first | trivial | simp
  refine .ret ⟨.inr rfl, ?_⟩
  exact Out.plain (by simp only [Tryz.results78]; rfl) (by simp only [az_, bc_, go_sem, seval, ae_, ac_] <;> (split <;> rfl)) (by simp only [bb_, go_sem, seval, ae_, ac_] <;> (rw [R1 (by simpa using h15)])) (by simp only [go_sem, seval, ae_, ac_])
 ·refine .seq (.rgn [] (by simp only [go_sem, seval, ae_, ac_]; rfl) ?_ ?_)
  ·first | trivial | simp
  refine .condB (by simp only [go_sem, seval, ae_, ac_]; rfl) (by simp only [go_sem, seval, ae_, ac_]) (fun h19 => ?_) (fun h19 => ?_)
  ·refine .seq (.rgn [a8_ (ams_ N e.s (by omega))] (by simp only [go_sem, seval, ae_, ac_]; rfl) ?_ ?_)
   ·first | trivial | simp
   refine .seq (.seq (.rgn [] (by simp only [go_sem, seval, ae_, ac_]; rfl) ?_ ?_))
   ·first | trivial | simp
   refine .condB (by simp only [go_sem, seval, ae_, ac_]; rfl) (by simp only [go_sem, seval, ae_, ac_]) (fun h26 => ?_) (fun h26 => ?_)
   ·refine .seq (.rgn [] (by simp only [go_sem, seval, ae_, ac_]; rfl) ?_ ?_)
    ·first | trivial | simp
    refine .ret ⟨.inr rfl, ?_⟩
    exact Out.plain (by simp only [Tryz.results78]; rfl) (by simp only [az_, bc_, go_sem, seval, ae_, ac_] <;> (split <;> rfl)) (by simp only [bb_, go_sem, seval, ae_, ac_] <;> (rw [R2 (by simpa using h19), if_pos (by simpa using h26)])) (by simp only [go_sem, seval, ae_, ac_])
   ·refine .skip (.seq (.rgn [a8_ (aad_ (M.getD (ix_ N e.s).toNat 0))] (by simp only [go_sem, seval, ae_, ac_, fj_ (show (ix_ N e.s).toNat < M.length by simp at h26; omega)]; rfl) ?_ ?_))
    ·simp at h26; (try simp); omega
    refine .ret ⟨.inr rfl, ?_⟩
    exact Out.plain (by simp only [Tryz.results78]; rfl) (by simp only [az_, bc_, go_sem, seval, ae_, ac_] <;> (split <;> rfl)) (by simp only [bb_, go_sem, seval, ae_, ac_] <;> (rw [R2 (by simpa using h19), if_neg (by simpa using h26)])) (by simp only [go_sem, seval, ae_, ac_])
  ·refine .seq (.rgn [] (by simp only [go_sem, seval, ae_, ac_]; rfl) ?_ ?_)
   ·first | trivial | simp
   refine .condB (by simp only [go_sem, seval, ae_, ac_]; rfl) (by simp only [go_sem, seval, ae_, ac_]) (fun h32 => ?_) (fun h32 => ?_)
   ·refine .seq (.rgn [a8_ (ih (e.kids.getD 0 E0) N M (g4 (by simpa using h32)).2 hl hn)] (by simp only [go_sem, seval, ae_, ac_, dp_ (show 0 < e.kids.length by have := g4 (by simpa using h32); omega)]; rfl) ?_ ?_)
    ·have := g4 (by simpa using h32); simp; omega
    refine .ret ⟨.inr rfl, ?_⟩
    exact Out.plain (by simp only [Tryz.results78]; rfl) (by simp only [az_, bc_, go_sem, seval, ae_, ac_] <;> (split <;> rfl)) (by simp only [bb_, go_sem, seval, ae_, ac_] <;> (rw [R4 (by simpa using h32)])) (by simp only [go_sem, seval, ae_, ac_])
   ·refine .skip (.seq (.rgn [a8_ (ih (e.kids.getD 0 E0) N M (g3 (g0 (by simpa using h15) (by simpa using h19) (by simpa using h32))).2.1 hl hn)] (by simp only [go_sem, seval, ae_, ac_, dp_ (show 0 < e.kids.length by have := g3 (g0 (by simpa using h15) (by simpa using h19) (by simpa using h32)); omega)]; rfl) ?_ ?_))
    ·have := g3 (g0 (by simpa using h15) (by simpa using h19) (by simpa using h32)); simp; omega
    refine .seq (.rgn [a8_ (ih (e.kids.getD 1 E0) N M (g3 (g0 (by simpa using h15) (by simpa using h19) (by simpa using h32))).2.2.1 hl hn)] (by simp only [go_sem, seval, ae_, ac_, dp_ (show 1 < e.kids.length by have := g3 (g0 (by simpa using h15) (by simpa using h19) (by simpa using h32)); omega)]; rfl) ?_ ?_)
    ·have := g3 (g0 (by simpa using h15) (by simpa using h19) (by simpa using h32)); simp; omega
    refine .seq (.seq (.rgn [] (by simp only [go_sem, seval, ae_, ac_]; rfl) ?_ ?_))
    ·first | trivial | simp
    refine .condB (by simp only [go_sem, seval, ae_, ac_]; rfl) (by simp only [go_sem, seval, ae_, ac_]) (fun h68 => ?_) (fun h68 => ?_)
    ·refine .seq (.rgn [] (by simp only [go_sem, seval, ae_, ac_]; rfl) ?_ ?_)
     ·first | trivial | simp
     refine .ret ⟨.inr rfl, ?_⟩
     exact Out.plain (by simp only [Tryz.results78]; rfl) (by simp only [az_, bc_, go_sem, seval, ae_, ac_] <;> (split <;> rfl)) (by simp only [bb_, go_sem, seval, ae_, ac_] <;> (rw [R3 (g0 (by simpa using h15) (by simpa using h19) (by simpa using h32))]; simp at h68; (rcases h68 with h | h <;> simp [pv_, h]))) (by simp only [go_sem, seval, ae_, ac_])
    ·refine .skip (.seq (.seq (.rgn [] (by simp only [go_sem, seval, ae_, ac_]; rfl) ?_ ?_)))
     ·first | trivial | simp
     refine .block (.seq (.rgn [] (by simp only [go_sem, seval, ae_, ac_]; rfl) ?_ ?_))
     ·first | trivial | simp
     refine .condB (by simp only [go_sem, seval, ae_, ac_]; rfl) (by simp only [go_sem, seval, ae_, ac_]) (fun h71 => ?_) (fun h71 => ?_)
     ·refine .seq (.rgn [a8_ (aad_ ((rk (e.kids.getD 0 E0) N M).1 + (rk (e.kids.getD 1 E0) N M).1))] (by simp only [go_sem, seval, ae_, ac_, bi_ (show -9223372036854775808 ≤ (rk (e.kids.getD 0 E0) N M).1 + (rk (e.kids.getD 1 E0) N M).1 by have := Q (g0 (by simpa using h15) (by simpa using h19) (by simpa using h32)); omega) (by have := Q (g0 (by simpa using h15) (by simpa using h19) (by simpa using h32)); omega)]; rfl) ?_ ?_)
      ·first | trivial | simp
      refine .ret ⟨.inr rfl, ?_⟩
      exact Out.plain (by simp only [Tryz.results78]; rfl) (by simp only [az_, bc_, go_sem, seval, ae_, ac_] <;> (split <;> rfl)) (by simp only [bb_, go_sem, seval, ae_, ac_] <;> (rw [R3 (g0 (by simpa using h15) (by simpa using h19) (by simpa using h32))]; simp at h68 h71; simp [pv_, twI, h68, h71])) (by simp only [go_sem, seval, ae_, ac_])
     ·refine .seq (.rgn [] (by simp only [go_sem, seval, ae_, ac_]; rfl) ?_ ?_)
      ·first | trivial | simp
      refine .condB (by simp only [go_sem, seval, ae_, ac_]; rfl) (by simp only [go_sem, seval, ae_, ac_]) (fun h77 => ?_) (fun h77 => ?_)
      ·refine .seq (.rgn [a8_ (aad_ ((rk (e.kids.getD 0 E0) N M).1 - (rk (e.kids.getD 1 E0) N M).1))] (by simp only [go_sem, seval, ae_, ac_, bi_ (show -9223372036854775808 ≤ (rk (e.kids.getD 0 E0) N M).1 - (rk (e.kids.getD 1 E0) N M).1 by have := Q (g0 (by simpa using h15) (by simpa using h19) (by simpa using h32)); omega) (by have := Q (g0 (by simpa using h15) (by simpa using h19) (by simpa using h32)); omega)]; rfl) ?_ ?_)
       ·first | trivial | simp
       refine .ret ⟨.inr rfl, ?_⟩
       exact Out.plain (by simp only [Tryz.results78]; rfl) (by simp only [az_, bc_, go_sem, seval, ae_, ac_] <;> (split <;> rfl)) (by simp only [bb_, go_sem, seval, ae_, ac_] <;> (rw [R3 (g0 (by simpa using h15) (by simpa using h19) (by simpa using h32))]; simp at h68 h71 h77; simp [pv_, twI, h68, h71, h77])) (by simp only [go_sem, seval, ae_, ac_])
      ·refine .seq (.rgn [] (by simp only [go_sem, seval, ae_, ac_]; rfl) ?_ ?_)
       ·first | trivial | simp
       refine .condB (by simp only [go_sem, seval, ae_, ac_]; rfl) (by simp only [go_sem, seval, ae_, ac_]) (fun h83 => ?_) (fun h83 => ?_)
       ·refine .seq (.rgn [a8_ (aad_ ((rk (e.kids.getD 0 E0) N M).1 * (rk (e.kids.getD 1 E0) N M).1))] (by simp only [go_sem, seval, ae_, ac_, bi_ (show -9223372036854775808 ≤ (rk (e.kids.getD 0 E0) N M).1 * (rk (e.kids.getD 1 E0) N M).1 by have := P (g0 (by simpa using h15) (by simpa using h19) (by simpa using h32)); omega) (by have := P (g0 (by simpa using h15) (by simpa using h19) (by simpa using h32)); omega)]; rfl) ?_ ?_)
        ·first | trivial | simp
        refine .ret ⟨.inr rfl, ?_⟩
        exact Out.plain (by simp only [Tryz.results78]; rfl) (by simp only [az_, bc_, go_sem, seval, ae_, ac_] <;> (split <;> rfl)) (by simp only [bb_, go_sem, seval, ae_, ac_] <;> (rw [R3 (g0 (by simpa using h15) (by simpa using h19) (by simpa using h32))]; simp at h68 h71 h77 h83; simp [pv_, twI, h68, h71, h77, h83])) (by simp only [go_sem, seval, ae_, ac_])
       ·refine .skip (.seq (.seq (.rgn [] (by simp only [go_sem, seval, ae_, ac_]; rfl) ?_ ?_)))
        ·first | trivial | simp
        refine .condB (by simp only [go_sem, seval, ae_, ac_]; rfl) (by simp only [go_sem, seval, ae_, ac_]) (fun h91 => ?_) (fun h91 => ?_)
        ·refine .seq (.rgn [] (by simp only [go_sem, seval, ae_, ac_]; rfl) ?_ ?_)
         ·first | trivial | simp
         refine .ret ⟨.inr rfl, ?_⟩
         exact Out.plain (by simp only [Tryz.results78]; rfl) (by simp only [az_, bc_, go_sem, seval, ae_, ac_] <;> (split <;> rfl)) (by simp only [bb_, go_sem, seval, ae_, ac_] <;> (rw [R3 (g0 (by simpa using h15) (by simpa using h19) (by simpa using h32))]; simp at h68 h71 h77 h83 h91; simp [pv_, twI, h68, h71, h77, h83, h91])) (by simp only [go_sem, seval, ae_, ac_])
        ·refine .skip (.seq (.rgn [] (by simp only [go_sem, seval, ae_, ac_]; rfl) ?_ ?_))
         ·first | trivial | simp
         refine .ret ⟨.inr rfl, ?_⟩
         exact Out.plain (by simp only [Tryz.results78]; rfl) (by simp only [az_, bc_, go_sem, seval, ae_, ac_] <;> (split <;> rfl)) (by simp only [bb_, go_sem, seval, ae_, ac_] <;> (rw [R3 (g0 (by simpa using h15) (by simpa using h19) (by simpa using h32))]; simp at h68 h71 h77 h83 h91; simp [pv_, twI, h68, h71, h77, h83, Int.not_lt.2 h91])) (by simp only [go_sem, seval, ae_, ac_])
end
section
set_option maxRecDepth 100000
set_option maxHeartbeats 4000000
def bLR (l : List Bl) : List (List V) := l.map bC
theorem ba_ (l : List Bl) : (bLR l).length = l.length := by simp [bLR]
theorem aj7_ (b : Bl) : cd_ (bC b) = true := by rw [at_]; simp only [cd_, V.pure, ga_, Bool.and_self]
theorem av_ (l : List Bl) : b9_ (bLR l) = true := ij_.2 fun r hr => by obtain ⟨s, _, rfl⟩ := List.mem_map.1 hr; exact aj7_ s
theorem aam_ {l : List Bl} {k : Nat} (h : k < l.length) : (bLR l).getD k [] = bC (l.getD k B0) := by
 simp [bLR, T8_, T6_ h]
theorem ajd_ (a b : List Bl) : bLR (a ++ b) = bLR a ++ bLR b := by simp [bLR]
def allB (l : List Bl) : Bool := l.all smb
theorem ai6_ {l : List Bl} (h : allB l = true) {k : Nat} (hk : k < l.length) : smb (l.getD k B0) = true := List.all_eq_true.1 h _ (bp_ hk)
theorem ys_ (b : Bl) (hs : smb b = true) : ACall En 96 [.ag (bC b)] [] [.b (!bok b)] [] := by
 refine aj_ (fn := Tryz.f96) [] Tryz.func96 rfl rfl (by simp) fun C => ?_
 rw [ay_]
 simp only [Tryz.ntmps96, T7_, List.length_nil, Nat.reduceAdd, Nat.reduceSub, List.replicate_succ, List.replicate_zero, List.cons_append, List.nil_append, bu_]
 refine .seq (.rgn [] (by simp only [go_sem, seval, at_]; rfl) ?_ ?_)
 ·first | trivial | simp
 refine .seq (.rgn [a8_ (m7_ b hs)] (by simp only [go_sem, seval, at_]; rfl) ?_ ?_)
 ·first | trivial | simp
 refine .ret ⟨.inr rfl, ?_⟩
 exact Out.plain (by simp only [Tryz.results96]; rfl) (by simp only [az_, bc_, go_sem, seval, at_] <;> (split <;> rfl)) (by simp only [bb_, go_sem, seval, at_] <;> (rfl)) (by simp only [go_sem, seval, at_])
theorem ah1_ (l : List Bl) (hs : allB l = true) (hl : l.length < 4611686018427387904) : ACall En 159 [.sl false (bLR l), .fn (.func 96) [] []] [] [.i .i64 (ta_ (fun s => !bok s) l)] [] := by
 refine aj_ (fn := Tryz.f159) [] Tryz.func159 rfl rfl (by simp) fun C => ?_
 rw [ay_]
 simp only [Tryz.ntmps159, T7_, List.length_nil, Nat.reduceAdd, Nat.reduceSub, List.replicate_succ, List.replicate_zero, List.cons_append, List.nil_append, bu_]
 refine .seq (.rgn [] (by simp only [go_sem, seval, ba_, av_, at_]; rfl) ?_ ?_)
 ·first | trivial | simp
 refine .seq (.seq (.rgn [] (by simp only [go_sem, seval, ba_, av_, at_]; rfl) ?_ ?_))
 ·first | trivial | simp
 refine .block (.loopK (fun k : Nat => ⟨[.sl false (bLR l), .fn (.func 96) [] [], .no, .no, .no, .no, .no, .i .i64 l.length, .i .i64 k, .no, .no, .no, .no, .no, .no, .no, .no, .no, .no], bh_ [], us []⟩) (fun k : Nat => k ≤ l.length ∧ (l.take k).any (fun s => !bok s) = false) (fun k : Nat => l.length - k) (0) ?_ ?_ (fun k hI => ?_))
 ·simp
 ·exact Can.weak (Weak.lit (by simp only [go_sem, seval, ba_, av_, at_, ar_, leV, ap_, aq_, V.inn, us, T9_, Ta_] <;> (simp)) (by simp only [go_sem, seval, ba_, av_, at_, ar_, leV, ap_, aq_, V.inn, us, T9_, Ta_]) (by simp only [go_sem, seval, ba_, av_, at_, ar_, leV, ap_, aq_, V.inn, us, T9_, Ta_]))
 refine .seq (.rgn [] (by simp only [go_sem, seval, ba_, av_, at_]; rfl) ?_ ?_)
 ·first | trivial | simp
 refine .seq (.condB (by simp only [go_sem, seval, ba_, av_, at_]; rfl) (by simp only [go_sem, seval, ba_, av_, at_]) (fun h9 => ?_) (fun h9 => ?_))
 ·refine .skip (.seq (.block (.seq (.rgn [] (by simp only [go_sem, seval, ba_, av_, at_]; rfl) ?_ ?_))))
  ·first | trivial | simp
  refine .seq (.rgn [ce_ (k < l.length) (fun h => ys_ (l.getD k B0) (ai6_ hs h))] (by simp only [go_sem, seval, ba_, av_, at_, aam_ (show k < l.length by simpa using h9)]; rfl) ?_ ?_)
  ·simp only [T3_] at h9; simp; omega
  refine .condB (by simp only [go_sem, seval, ba_, av_, at_]; rfl) (by simp only [go_sem, seval, ba_, av_, at_]) (fun h16 => ?_) (fun h16 => ?_)
  ·refine .seq (.rgn [] (by simp only [go_sem, seval, ba_, av_, at_]; rfl) ?_ ?_)
   ·first | trivial | simp
   refine .ret ⟨.inr rfl, ?_⟩
   exact Out.plain (by simp only [Tryz.results159]; rfl) (by simp only [az_, bc_, go_sem, seval, ba_, av_, at_] <;> (split <;> rfl)) (by simp only [bb_, go_sem, seval, ba_, av_, at_] <;> (simp at h9; rw [tj_ (d := B0) h9 hI.2 h16])) (by simp only [go_sem, seval, ba_, av_, at_])
  ·refine .skip (.rgn [] (by simp only [go_sem, seval, ba_, av_, at_]; rfl) ?_ ?_)
   ·first | trivial | simp
   refine Exists.intro (k + 1) ⟨?_, ?_, ?_⟩
   ·simp at h9; refine ⟨by omega, ?_⟩; rw [o0_ (d := B0) h9, hI.2, h16]; rfl
   ·simp at h9; omega
   exact Can.weak (Weak.lit (by simp only [go_sem, seval, ba_, av_, at_, ar_, leV, ap_, aq_, V.inn, us, T9_, Ta_] <;> (rw [bi_ (by omega) (by omega)]; simp)) (by simp only [go_sem, seval, ba_, av_, at_, ar_, leV, ap_, aq_, V.inn, us, T9_, Ta_]) (by simp only [go_sem, seval, ba_, av_, at_, ar_, leV, ap_, aq_, V.inn, us, T9_, Ta_]))
 ·refine .exit (.seq (.rgn [] (by simp only [go_sem, seval, ba_, av_, at_]; rfl) ?_ ?_))
  ·first | trivial | simp
  refine .ret ⟨.inr rfl, ?_⟩
  exact Out.plain (by simp only [Tryz.results159]; rfl) (by simp only [az_, bc_, go_sem, seval, ba_, av_, at_] <;> (split <;> rfl)) (by simp only [bb_, go_sem, seval, ba_, av_, at_] <;> (simp at h9; have h0 := hI.2; rw [T1_ h9] at h0; rw [mi_ h0])) (by simp only [go_sem, seval, ba_, av_, at_])
theorem ub_ (l : List Bl) (hs : allB l = true) (hl : l.length < 4611686018427387904) : ACall En 95 [.sl false (bLR l), .fn (.func 96) [] []] [] [.b (l.any fun s => !bok s)] [] := by
 refine aj_ (fn := Tryz.f95) [] Tryz.func95 rfl rfl (by simp) fun C => ?_
 rw [ay_]
 simp only [Tryz.ntmps95, T7_, List.length_nil, Nat.reduceAdd, Nat.reduceSub, List.replicate_succ, List.replicate_zero, List.cons_append, List.nil_append, bu_]
 refine .seq (.rgn [] (by simp only [go_sem, seval, av_]; rfl) ?_ ?_)
 ·first | trivial | simp
 refine .seq (.rgn [a8_ (ah1_ l hs hl)] (by simp only [go_sem, seval, av_]; rfl) ?_ ?_)
 ·first | trivial | simp
 refine .ret ⟨.inr rfl, ?_⟩
 exact Out.plain (by simp only [Tryz.results95]; rfl) (by simp only [az_, bc_, go_sem, seval, av_] <;> (split <;> rfl)) (by simp only [bb_, go_sem, seval, av_] <;> (rw [s6_])) (by simp only [go_sem, seval, av_])
theorem anyB (l : List Bl) : (l.any fun s => !bok s) = !l.all bok := by rw [List.any_eq_not_all_not]; simp
theorem e2_ {l : List Bl} (h : lok l = true) : 1 ≤ l.length ∧ l.length ≤ 16 ∧ ∀ k, k < l.length → bok (l.getD k B0) = true := by
 simp only [lok, T5_, T3_, List.all_eq_true] at h
 exact ⟨h.1.1, h.1.2, fun k hk => h.2 _ (bp_ hk)⟩
theorem aec_ {b : Bl} (h : bok b = true) (k : ¬ b.kind = 0) : eok b.expr = true := by
 have h0 : ew_ b = true := by simp only [bok, T5_] at h; exact h.1
 unfold ew_ at h0
 by_cases k1 : b.kind = 1
 ·simp [k1] at h0; exact do_ h0.1.2
 by_cases k2 : b.kind = 2
 ·simp [k2] at h0; exact do_ h0.1.2
 by_cases k3 : b.kind = 3
 ·simp [k3] at h0; exact do_ h0.1.2
 ·simp [k, k1, k2, k3] at h0
theorem aiy_ {b : Bl} (h : bok b = true) (k : b.kind = 3) : eok b.thn = true := by
 have h0 : ew_ b = true := by simp only [bok, T5_] at h; exact h.1
 unfold ew_ at h0
 simp [k] at h0; exact do_ h0.2
theorem m6_ {r : Rs} {b : Bl} (k : b.kind = 0) : d7_ r b = r := by unfold d7_; split <;> simp_all
theorem rg_ {r : Rs} {b : Bl} (h : r.ok = true) (k : ¬ b.kind = 0) (h2 : (ed_ b r.names r.nums).2.2 = false) : d7_ r b = { r with ok := false } := by simp [d7_, h, k, h2]
theorem ae9_ {r : Rs} {b : Bl} (h : r.ok = true) (k : b.kind = 1) (h2 : (ed_ b r.names r.nums).2.2 = true) : d7_ r b = { r with names := r.names ++ [b.name], nums := r.nums ++ [(rk b.expr r.names r.nums).1] } := by
 have : (ed_ b r.names r.nums).1 = (rk b.expr r.names r.nums).1 := by unfold ed_; split <;> rfl
 simp [d7_, h, k, h2, this]
theorem acr_ {r : Rs} {b : Bl} (h : r.ok = true) (k : ¬ b.kind = 0) (k1 : ¬ b.kind = 1) (h2 : (ed_ b r.names r.nums).2.2 = true) (h3 : b.kind = 2 ∨ ¬ (rk b.expr r.names r.nums).1 = 0) : d7_ r b = { r with said := r.said ++ [(ed_ b r.names r.nums).2.1] } := by
 have e : (ed_ b r.names r.nums).1 = (rk b.expr r.names r.nums).1 := by unfold ed_; split <;> rfl
 unfold d7_
 rw [if_neg (by simp [h]), if_neg k, if_neg (by simp [h2]), if_neg k1, if_pos (by rw [e]; exact h3)]
theorem acx_ {r : Rs} {b : Bl} (h : r.ok = true) (k : ¬ b.kind = 0) (k1 : ¬ b.kind = 1) (h2 : (ed_ b r.names r.nums).2.2 = true) (h3 : ¬ b.kind = 2) (h4 : (rk b.expr r.names r.nums).1 = 0) : d7_ r b = r := by
 have e : (ed_ b r.names r.nums).1 = (rk b.expr r.names r.nums).1 := by unfold ed_; split <;> rfl
 unfold d7_
 rw [if_neg (by simp [h]), if_neg k, if_neg (by simp [h2]), if_neg k1, if_neg (by rw [e]; simp [h3, h4])]
theorem jx_ (l : List Int) (n : Int) : inR (l ++ [n]) = inR l ++ [[.i .i64 n]] := by rw [t3_]; rfl
theorem qq_ (l : List Str) (s : Str) : bo_ (l ++ [s]) = bo_ l ++ [[.s s]] := by rw [lr_]; rfl
theorem j4_ (l : List Int) (n : Nat) (hn : n = l.length) (hl : l.length < 1099511627776) : ACall En 79 [.ow 0 1 0 n] [⟨3, 1, inR l⟩] [.ow 0 1 0 n] [⟨3, 1, inR l⟩] := by
 refine aj_ (fn := Tryz.f79) [0] Tryz.func79 rfl rfl (by simp) fun C => ?_
 rw [ay_]
 simp only [Tryz.ntmps79, T7_, List.length_nil, Nat.reduceAdd, Nat.reduceSub, List.replicate_succ, List.replicate_zero, List.cons_append, List.nil_append, bu_]
 refine .seq (.rgn [] (by simp only [go_sem, seval, ac_]; rfl) ?_ ?_)
 ·subst hn; simp [ae_]
 refine .seq (.rgn [] (by simp only [go_sem, seval, ac_]; rfl) ?_ ?_)
 ·subst hn; simp [ae_]
 refine .ret ⟨.inr rfl, ?_⟩
 exact Out.mem' (by simp only [Tryz.results79]; rfl) (by simp only [az_, bc_, go_sem, seval, ac_]) (by simp only [bb_, rns, rn, go_sem, seval, ac_] <;> (simp)) (by simp) rfl (by decide) (by simp only [go_sem, seval, ac_]) (by simp only [ao_, go_sem, seval, ac_]) (by simp only [ai_, go_sem, seval, ac_] <;> (simp [b7_, ac_]))
theorem gs_ {l : List Bl} {k : Nat} (hk : k ≤ l.length) (h16 : l.length ≤ 16) : (bt_ (l.take k)).names.length = (bt_ (l.take k)).nums.length ∧ (bt_ (l.take k)).names.length ≤ 16 ∧ (bt_ (l.take k)).said.length ≤ 16 := by
 have := u5_ l k hk; omega
theorem jv_ {l : List Bl} {k : Nat} (hk : k < l.length) (h : (l.getD k B0).kind = 0) : bt_ (l.take (k + 1)) = bt_ (l.take k) := by rw [fy_ hk, m6_ h]
theorem ld_ {l : List Bl} {k : Nat} (hk : k < l.length) (h : (bt_ (l.take k)).ok = true) (h1 : (l.getD k B0).kind = 1) (h2 : (ed_ (l.getD k B0) (bt_ (l.take k)).names (bt_ (l.take k)).nums).2.2 = true) :
  bt_ (l.take (k + 1)) = { bt_ (l.take k) with names := (bt_ (l.take k)).names ++ [(l.getD k B0).name], nums := (bt_ (l.take k)).nums ++ [(rk (l.getD k B0).expr (bt_ (l.take k)).names (bt_ (l.take k)).nums).1] } := by rw [fy_ hk, ae9_ h h1 h2]
theorem l1_ {l : List Bl} {k : Nat} (hk : k < l.length) (h : (bt_ (l.take k)).ok = true) (h0 : ¬ (l.getD k B0).kind = 0) (h1 : ¬ (l.getD k B0).kind = 1) (h2 : (ed_ (l.getD k B0) (bt_ (l.take k)).names (bt_ (l.take k)).nums).2.2 = true) (h3 : (l.getD k B0).kind = 2 ∨ ¬ (rk (l.getD k B0).expr (bt_ (l.take k)).names (bt_ (l.take k)).nums).1 = 0) :
  bt_ (l.take (k + 1)) = { bt_ (l.take k) with said := (bt_ (l.take k)).said ++ [(ed_ (l.getD k B0) (bt_ (l.take k)).names (bt_ (l.take k)).nums).2.1] } := by rw [fy_ hk, acr_ h h0 h1 h2 h3]
theorem jt_ {l : List Bl} {k : Nat} (hk : k < l.length) (h : (bt_ (l.take k)).ok = true) (h0 : ¬ (l.getD k B0).kind = 0) (h1 : ¬ (l.getD k B0).kind = 1) (h2 : (ed_ (l.getD k B0) (bt_ (l.take k)).names (bt_ (l.take k)).nums).2.2 = true) (h3 : ¬ (l.getD k B0).kind = 2) (h4 : (rk (l.getD k B0).expr (bt_ (l.take k)).names (bt_ (l.take k)).nums).1 = 0) :
  bt_ (l.take (k + 1)) = bt_ (l.take k) := by rw [fy_ hk, acx_ h h0 h1 h2 h3 h4]
theorem r3_ {l : List Bl} {k : Nat} (hl : lok l = true) (hk : k < l.length) (h : (bt_ (l.take k)).ok = true) (h0 : ¬ (l.getD k B0).kind = 0) (h2 : (ed_ (l.getD k B0) (bt_ (l.take k)).names (bt_ (l.take k)).nums).2.2 = false) : k1_ l = ((bt_ (l.take k)).said, false) := by
 have e := fy_ hk
 rw [rg_ h h0 h2] at e
 have e2 := rt_ (l := l) (k := k + 1) (by omega) (by rw [e])
 unfold k1_; rw [if_pos hl, e2, e]
theorem v8_ {l : List Bl} {k : Nat} (hl : lok l = true) (hk : l.length ≤ k) (h : (bt_ (l.take k)).ok = true) : k1_ l = ((bt_ (l.take k)).said, true) := by
 rw [T1_ hk] at h ⊢
 unfold k1_; rw [if_pos hl, h]
theorem xb_ {l : List Bl} (h : lok l = false) : k1_ l = ([], false) := by unfold k1_; rw [h]; rfl
theorem yo_ (l : List Bl) : lok l = !(!(decide ((1 : Int) ≤ l.length) && decide ((l.length : Int) ≤ 16)) || l.any fun s => !bok s) := by
 rw [anyB]; simp only [lok, Bool.not_or, Bool.not_not, e0_]; rfl
theorem xc_ (l : List Bl) (hs : allB l = true) (hl : l.length < 4611686018427387904) : ACall En 30 [.sl false (bLR l)] [] [.ow 0 1 0 (k1_ l).1.length, .b (k1_ l).2] [⟨3, 1, inR (k1_ l).1⟩] := by
 have F1 : ∀ k, lok l = true → k < l.length → ¬ (l.getD k B0).kind = 0 → form (l.getD k B0).expr ((5 : Nat) : Int) = true := fun k h hk hk0 => bq_ (aec_ ((e2_ h).2.2 k hk) hk0)
 have F2 : ∀ k, lok l = true → k < l.length → (l.getD k B0).kind = 3 → form (l.getD k B0).thn ((5 : Nat) : Int) = true := fun k h hk hk0 => bq_ (aiy_ ((e2_ h).2.2 k hk) hk0)
 refine aj_ (fn := Tryz.f30) [22] Tryz.func30 rfl rfl (by simp) fun C => ?_
 rw [ay_]
 simp only [Tryz.ntmps30, T7_, List.length_nil, Nat.reduceAdd, Nat.reduceSub, List.replicate_succ, List.replicate_zero, List.cons_append, List.nil_append, bu_]
 refine .seq (.rgn [] (by simp only [go_sem, seval, ba_, av_, ae_, ac_, at_]; rfl) ?_ ?_)
 ·first | trivial | simp
 refine .seq (.seq (.rgn [a8_ (x2_ l.length 1 16), a8_ (ub_ l hs hl)] (by simp only [go_sem, seval, ba_, av_, ae_, ac_, at_]; rfl) ?_ ?_))
 ·first | trivial | simp
 refine .condB (by simp only [go_sem, seval, ba_, av_, ae_, ac_, at_]; rfl) (by simp only [go_sem, seval, ba_, av_, ae_, ac_, at_]) (fun h19 => ?_) (fun h19 => ?_)
 ·refine .seq (.rgn [] (by simp only [go_sem, seval, ba_, av_, ae_, ac_, at_]; rfl) ?_ ?_)
  ·first | trivial | simp
  refine .can (Can.ownSlot 2 22 3 1 (by simp only [go_sem, seval, ba_, av_, ae_, ac_, at_] <;> rfl) (by simp only [go_sem, seval, ba_, av_, ae_, ac_, at_]) (by simp only [go_sem, seval, ba_, av_, ae_, ac_, at_] <;> rfl)) ?_
  refine .ret ⟨.inr rfl, ?_⟩
  exact Out.mem' (by simp only [Tryz.results30]; rfl) (by simp only [az_, bc_, go_sem, seval, ba_, av_, ae_, ac_, at_]) (by simp only [bb_, rns, rn, go_sem, seval, ba_, av_, ae_, ac_, at_] <;> (rw [xb_ (by rw [yo_, h19]; rfl)]; try simp)) (by simp) rfl (by decide) (by simp only [go_sem, seval, ba_, av_, ae_, ac_, at_]) (by simp only [ao_, go_sem, seval, ba_, av_, ae_, ac_, at_]) (by simp only [ai_, go_sem, seval, ba_, av_, ae_, ac_, at_] <;> (rw [xb_ (by rw [yo_, h19]; rfl)]; simp [inR]))
 ·refine .skip (.seq (.rgn [] (by simp only [go_sem, seval, ba_, av_, ae_, ac_, at_]; rfl) ?_ ?_))
  ·first | trivial | simp
  refine .seq (.rgn [] (by simp only [go_sem, seval, ba_, av_, ae_, ac_, at_]; rfl) ?_ ?_)
  ·first | trivial | simp
  refine .seq (.seq (.rgn [] (by simp only [go_sem, seval, ba_, av_, ae_, ac_, at_]; rfl) ?_ ?_))
  ·first | trivial | simp
  refine .block (.loopK (fun k : Nat => ⟨[.sl false (bLR l), .no, .no, .no, .ow 20 1 0 (bt_ (l.take k)).names.length, .ow 21 1 0 (bt_ (l.take k)).nums.length, .ow 22 1 0 (bt_ (l.take k)).said.length, .no, .no, .no, .no, .no, .no, .no, .no, .no, .no, .no, .no, .no, .sl false (bLR l), .i .i64 l.length, .i .i64 k, .no, .no, .no, .no, .no, .no, .no, .no, .no, .no, .no, .no, .no, .no, .no, .no, .no, .no, .no, .no, .no, .no, .no, .no, .no, .no, .no, .no, .no, .no, .no, .no, .no, .no, .no, .no, .no, .no, .no, .no, .no, .no, .no, .no, .no, .no, .no, .no, .no, .no, .no, .no, .no, .no, .no, .no, .no, .no, .no], bh_ [(20, ⟨9, 1, bo_ (bt_ (l.take k)).names⟩), (21, ⟨3, 1, inR (bt_ (l.take k)).nums⟩), (22, ⟨3, 1, inR (bt_ (l.take k)).said⟩)], us [20, 21, 22]⟩) (fun k : Nat => k ≤ l.length ∧ (bt_ (l.take k)).ok = true ∧ lok l = true) (fun k : Nat => l.length - k) (0) ?_ ?_ (fun k hI => ?_))
  ·exact ⟨Nat.zero_le _, by simp [bt_], by rw [yo_, h19]; rfl⟩
  ·refine Can.trans (Can.ownSlot 4 20 9 1 (by simp only [go_sem, seval, ba_, av_, ae_, ac_, at_] <;> rfl) (by simp only [go_sem, seval, ba_, av_, ae_, ac_, at_]) (by simp only [go_sem, seval, ba_, av_, ae_, ac_, at_] <;> rfl)) ?_
   refine Can.trans (Can.ownSlot 5 21 3 1 (by simp only [go_sem, seval, ba_, av_, ae_, ac_, at_] <;> rfl) (by simp only [go_sem, seval, ba_, av_, ae_, ac_, at_]) (by simp only [go_sem, seval, ba_, av_, ae_, ac_, at_] <;> rfl)) ?_
   refine Can.trans (Can.ownSlot 6 22 3 1 (by simp only [go_sem, seval, ba_, av_, ae_, ac_, at_] <;> rfl) (by simp only [go_sem, seval, ba_, av_, ae_, ac_, at_]) (by simp only [go_sem, seval, ba_, av_, ae_, ac_, at_] <;> rfl)) ?_
   exact Can.weak (Weak.lit (by simp only [go_sem, seval, ba_, av_, ae_, ac_, at_, ar_, leV, ap_, aq_, V.inn, us, T9_, Ta_] <;> (simp [bt_])) (by simp only [go_sem, seval, ba_, av_, ae_, ac_, at_, ar_, leV, ap_, aq_, V.inn, us, T9_, Ta_]) (by simp only [go_sem, seval, ba_, av_, ae_, ac_, at_, ar_, leV, ap_, aq_, V.inn, us, T9_, Ta_] <;> (simp [bt_, bo_, inR])))
  refine .seq (.rgn [] (by simp only [go_sem, seval, ba_, av_, ae_, ac_, at_]; rfl) ?_ ?_)
  ·first | trivial | simp
  refine .seq (.condB (by simp only [go_sem, seval, ba_, av_, ae_, ac_, at_]; rfl) (by simp only [go_sem, seval, ba_, av_, ae_, ac_, at_]) (fun h23 => ?_) (fun h23 => ?_))
  ·refine .skip (.seq (.block (.seq (.rgn [] (by simp only [go_sem, seval, ba_, av_, ae_, ac_, at_, aam_ (show k < l.length by simpa using h23), at_]; rfl) ?_ ?_))))
   ·simp at h23; simp; omega
   refine .seq (.seq (.rgn [] (by simp only [go_sem, seval, ba_, av_, ae_, ac_, at_]; rfl) ?_ ?_))
   ·first | trivial | simp
   refine .condB (by simp only [go_sem, seval, ba_, av_, ae_, ac_, at_]; rfl) (by simp only [go_sem, seval, ba_, av_, ae_, ac_, at_]) (fun h28 => ?_) (fun h28 => ?_)
   ·refine .exit (.rgn [] (by simp only [go_sem, seval, ba_, av_, ae_, ac_, at_]; rfl) ?_ ?_)
    ·first | trivial | simp
    refine Exists.intro (k + 1) ⟨?_, ?_, ?_⟩
    ·have hk : k < l.length := (by simpa using h23); have e := jv_ hk (by simpa using h28); exact ⟨by omega, by rw [e]; exact hI.2.1, hI.2.2⟩
    ·simp at h23; omega
    exact Can.weak (Weak.lit (by simp only [go_sem, seval, ba_, av_, ae_, ac_, at_, ar_, leV, ap_, aq_, V.inn, us, T9_, Ta_] <;> ((have hk : k < l.length := (by simpa using h23)); (have e := jv_ hk (by simpa using h28)); rw [e, bi_ (by omega) (by omega)]; simp)) (by simp only [go_sem, seval, ba_, av_, ae_, ac_, at_, ar_, leV, ap_, aq_, V.inn, us, T9_, Ta_]) (by simp only [go_sem, seval, ba_, av_, ae_, ac_, at_, ar_, leV, ap_, aq_, V.inn, us, T9_, Ta_] <;> ((have hk : k < l.length := (by simpa using h23)); (have e := jv_ hk (by simpa using h28)); rw [e]; simp)))
   ·refine .skip (.seq (.rgn [rw_ (k3_ 5 (l.getD k B0).expr (bt_ (l.take k)).names (bt_ (l.take k)).nums (F1 k hI.2.2 (by simpa using h23) (by simpa using h28)) (gs_ hI.1 (e2_ hI.2.2).2.1).1 (by have := (gs_ hI.1 (e2_ hI.2.2).2.1).2.1; omega))] (by simp only [go_sem, seval, ba_, av_, ae_, ac_, at_]; rfl) ?_ ?_))
    ·(first | (simp [T1_, ab_, ae_, be_]; done))
    refine .seq (.rgn [] (by simp only [go_sem, seval, ba_, av_, ae_, ac_, at_]; rfl) ?_ ?_)
    ·first | trivial | simp
    refine .seqJ (fun q : Int × Bool => ⟨[.sl false (bLR l), .no, .no, .no, .ow 20 1 0 (bt_ (l.take k)).names.length, .ow 21 1 0 (bt_ (l.take k)).nums.length, .ow 22 1 0 (bt_ (l.take k)).said.length, .no, .pt 18 10 0 0, .i .i64 (rk (l.getD k B0).expr (bt_ (l.take k)).names (bt_ (l.take k)).nums).1, .b q.2, .i .i64 q.1, .no, .no, .no, .no, .no, .no, .no, .no, .sl false (bLR l), .i .i64 l.length, .i .i64 k, .no, .no, .no, .no, .no, .no, .no, .no, .no, .no, .no, .no, .no, .no, .no, .no, .no, .no, .no, .no, .no, .no, .no, .no, .no, .no, .no, .no, .no, .no, .no, .no, .no, .no, .no, .no, .no, .no, .no, .no, .no, .no, .no, .no, .no, .no, .no, .no, .no, .no, .no, .no, .no, .no, .no, .no, .no, .no, .no], bh_ [(18, ⟨83, 10, [bC (l.getD k B0)]⟩), (20, ⟨9, 1, bo_ (bt_ (l.take k)).names⟩), (21, ⟨3, 1, inR (bt_ (l.take k)).nums⟩), (22, ⟨3, 1, inR (bt_ (l.take k)).said⟩)], us [20, 21, 22, 18]⟩) (fun q : Int × Bool => q = ((ed_ (l.getD k B0) (bt_ (l.take k)).names (bt_ (l.take k)).nums).2.1, (ed_ (l.getD k B0) (bt_ (l.take k)).names (bt_ (l.take k)).nums).2.2)) ?_ (fun q hJ => ?_)
    ·refine .seq (.rgn [] (by simp only [go_sem, seval, ba_, av_, ae_, ac_, at_]; rfl) ?_ ?_)
     ·first | trivial | simp
     refine .condB (by simp only [go_sem, seval, ba_, av_, ae_, ac_, at_]; rfl) (by simp only [go_sem, seval, ba_, av_, ae_, ac_, at_]) (fun h43 => ?_) (fun h43 => ?_)
     ·refine .rgn [rw_ (k3_ 5 (l.getD k B0).thn (bt_ (l.take k)).names (bt_ (l.take k)).nums (F2 k hI.2.2 (by simpa using h23) (by simp at h43; exact h43.2)) (gs_ hI.1 (e2_ hI.2.2).2.1).1 (by have := (gs_ hI.1 (e2_ hI.2.2).2.1).2.1; omega))] (by simp only [go_sem, seval, ba_, av_, ae_, ac_, at_]; rfl) ?_ ?_
      ·(first | (simp [T1_, ab_, ae_, be_]; done))
      refine Exists.intro (((rk (l.getD k B0).thn (bt_ (l.take k)).names (bt_ (l.take k)).nums).1, (rk (l.getD k B0).thn (bt_ (l.take k)).names (bt_ (l.take k)).nums).2)) ⟨?_, ?_⟩
      ·unfold ed_; first | (rw [if_pos (by simp at h43 ⊢; exact h43)]; done) | (rw [if_neg (by simp at h43 ⊢; exact h43)]; done)
      exact Can.weak (Weak.lit (by simp only [go_sem, seval, ba_, av_, ae_, ac_, at_, ar_, leV, ap_, aq_, V.inn, us, T9_, Ta_]) (by simp only [go_sem, seval, ba_, av_, ae_, ac_, at_, ar_, leV, ap_, aq_, V.inn, us, T9_, Ta_]) (by simp only [go_sem, seval, ba_, av_, ae_, ac_, at_, ar_, leV, ap_, aq_, V.inn, us, T9_, Ta_]))
     ·refine .skip ?_
      refine Exists.intro (((rk (l.getD k B0).expr (bt_ (l.take k)).names (bt_ (l.take k)).nums).1, (rk (l.getD k B0).expr (bt_ (l.take k)).names (bt_ (l.take k)).nums).2)) ⟨?_, ?_⟩
      ·unfold ed_; first | (rw [if_pos (by simp at h43 ⊢; exact h43)]; done) | (rw [if_neg (by simp at h43 ⊢; exact h43)]; done)
      exact Can.weak (Weak.lit (by simp only [go_sem, seval, ba_, av_, ae_, ac_, at_, ar_, leV, ap_, aq_, V.inn, us, T9_, Ta_]) (by simp only [go_sem, seval, ba_, av_, ae_, ac_, at_, ar_, leV, ap_, aq_, V.inn, us, T9_, Ta_]) (by simp only [go_sem, seval, ba_, av_, ae_, ac_, at_, ar_, leV, ap_, aq_, V.inn, us, T9_, Ta_]))
    refine .seq (.seq (.rgn [] (by simp only [go_sem, seval, ba_, av_, ae_, ac_, at_]; rfl) ?_ ?_))
    ·first | trivial | simp
    refine .condB (by simp only [go_sem, seval, ba_, av_, ae_, ac_, at_]; rfl) (by simp only [go_sem, seval, ba_, av_, ae_, ac_, at_]) (fun h53 => ?_) (fun h53 => ?_)
    ·refine .seq (.rgn [bx_ [22] [] (j4_ (bt_ (l.take k)).said (bt_ (l.take k)).said.length rfl (by have := (gs_ hI.1 (e2_ hI.2.2).2.1).2.2; omega))] (by simp only [go_sem, seval, ba_, av_, ae_, ac_, at_]; rfl) ?_ ?_)
     ·first | trivial | simp
     refine .ret ⟨.inr rfl, ?_⟩
     exact Out.mem' (by simp only [Tryz.results30]; rfl) (by simp only [az_, bc_, go_sem, seval, ba_, av_, ae_, ac_, at_]) (by simp only [bb_, rns, rn, go_sem, seval, ba_, av_, ae_, ac_, at_] <;> (rw [r3_ hI.2.2 (by simpa using h23) hI.2.1 (by simpa using h28) (by rw [hJ] at h53; simpa using h53)]; try simp)) (by simp) rfl (by decide) (by simp only [go_sem, seval, ba_, av_, ae_, ac_, at_]) (by simp only [ao_, go_sem, seval, ba_, av_, ae_, ac_, at_]) (by simp only [ai_, go_sem, seval, ba_, av_, ae_, ac_, at_] <;> (rw [r3_ hI.2.2 (by simpa using h23) hI.2.1 (by simpa using h28) (by rw [hJ] at h53; simpa using h53)]; (try simp [b7_, ac_])))
    ·refine .skip (.seq (.rgn [] (by simp only [go_sem, seval, ba_, av_, ae_, ac_, at_]; rfl) ?_ ?_))
     ·first | trivial | simp
     refine .condB (by simp only [go_sem, seval, ba_, av_, ae_, ac_, at_]; rfl) (by simp only [go_sem, seval, ba_, av_, ae_, ac_, at_]) (fun h58 => ?_) (fun h58 => ?_)
     ·refine .rgn [] (by simp only [go_sem, seval, ba_, av_, ae_, ac_, at_]; rfl) ?_ ?_
      ·have := gs_ hI.1 (e2_ hI.2.2).2.1; simp; omega
      refine .rgn [] (by simp only [go_sem, seval, ba_, av_, ae_, ac_, at_]; rfl) ?_ ?_
      ·first | trivial | simp
      refine Exists.intro (k + 1) ⟨?_, ?_, ?_⟩
      ·have hk : k < l.length := (by simpa using h23); have e := ld_ hk hI.2.1 (by simpa using h58) (by rw [hJ] at h53; simpa using h53); exact ⟨by omega, by rw [e]; exact hI.2.1, hI.2.2⟩
      ·simp at h23; omega
      refine Can.trans (Can.swap 73 20 (by decide) (by decide) (by decide) (by decide) (by simp only [go_sem, seval, ba_, av_, ae_, ac_, at_, V.cl]) (by simp only [go_sem, seval, ba_, av_, ae_, ac_, at_, V.cl]) (by simp only [go_sem, seval, ba_, av_, ae_, ac_, at_, bj_, sw, swM, rnB] <;> rfl) (by simp only [go_sem, seval, ba_, av_, ae_, ac_, at_, bj_, sw, swM, rnB] <;> rfl) (by simp only [go_sem, seval, ba_, av_, ae_, ac_, at_, bj_, sw, swM, rnB] <;> rfl)) ?_
      refine Can.trans (Can.swap 77 21 (by decide) (by decide) (by decide) (by decide) (by simp only [go_sem, seval, ba_, av_, ae_, ac_, at_, V.cl]) (by simp only [go_sem, seval, ba_, av_, ae_, ac_, at_, V.cl]) (by simp only [go_sem, seval, ba_, av_, ae_, ac_, at_, bj_, sw, swM, rnB] <;> rfl) (by simp only [go_sem, seval, ba_, av_, ae_, ac_, at_, bj_, sw, swM, rnB] <;> rfl) (by simp only [go_sem, seval, ba_, av_, ae_, ac_, at_, bj_, sw, swM, rnB] <;> rfl)) ?_
      exact Can.weak (Weak.lit (by simp only [go_sem, seval, ba_, av_, ae_, ac_, at_, ar_, leV, ap_, aq_, V.inn, us, T9_, Ta_] <;> ((have hk : k < l.length := (by simpa using h23)); (have e := ld_ hk hI.2.1 (by simpa using h58) (by rw [hJ] at h53; simpa using h53)); rw [e, bi_ (by omega) (by omega)]; simp)) (by simp only [go_sem, seval, ba_, av_, ae_, ac_, at_, ar_, leV, ap_, aq_, V.inn, us, T9_, Ta_]) (by simp only [go_sem, seval, ba_, av_, ae_, ac_, at_, ar_, leV, ap_, aq_, V.inn, us, T9_, Ta_] <;> ((have hk : k < l.length := (by simpa using h23)); (have e := ld_ hk hI.2.1 (by simpa using h58) (by rw [hJ] at h53; simpa using h53)); rw [e]; simp [qq_, jx_])))
     ·refine .seq (.rgn [] (by simp only [go_sem, seval, ba_, av_, ae_, ac_, at_]; rfl) ?_ ?_)
      ·first | trivial | simp
      refine .condB (by simp only [go_sem, seval, ba_, av_, ae_, ac_, at_]; rfl) (by simp only [go_sem, seval, ba_, av_, ae_, ac_, at_]) (fun h74 => ?_) (fun h74 => ?_)
      ·refine .rgn [] (by simp only [go_sem, seval, ba_, av_, ae_, ac_, at_]; rfl) ?_ ?_
       ·have := gs_ hI.1 (e2_ hI.2.2).2.1; simp; omega
       refine .rgn [] (by simp only [go_sem, seval, ba_, av_, ae_, ac_, at_]; rfl) ?_ ?_
       ·first | trivial | simp
       refine Exists.intro (k + 1) ⟨?_, ?_, ?_⟩
       ·have hk : k < l.length := (by simpa using h23); have e := l1_ hk hI.2.1 (by simpa using h28) (by simpa using h58) (by rw [hJ] at h53; simpa using h53) (by simp at h74; exact h74); exact ⟨by omega, by rw [e]; exact hI.2.1, hI.2.2⟩
       ·simp at h23; omega
       refine Can.trans (Can.swap 88 22 (by decide) (by decide) (by decide) (by decide) (by simp only [go_sem, seval, ba_, av_, ae_, ac_, at_, V.cl]) (by simp only [go_sem, seval, ba_, av_, ae_, ac_, at_, V.cl]) (by simp only [go_sem, seval, ba_, av_, ae_, ac_, at_, bj_, sw, swM, rnB] <;> rfl) (by simp only [go_sem, seval, ba_, av_, ae_, ac_, at_, bj_, sw, swM, rnB] <;> rfl) (by simp only [go_sem, seval, ba_, av_, ae_, ac_, at_, bj_, sw, swM, rnB] <;> rfl)) ?_
       exact Can.weak (Weak.lit (by simp only [go_sem, seval, ba_, av_, ae_, ac_, at_, ar_, leV, ap_, aq_, V.inn, us, T9_, Ta_] <;> ((have hk : k < l.length := (by simpa using h23)); (have e := l1_ hk hI.2.1 (by simpa using h28) (by simpa using h58) (by rw [hJ] at h53; simpa using h53) (by simp at h74; exact h74)); rw [e, bi_ (by omega) (by omega)]; simp)) (by simp only [go_sem, seval, ba_, av_, ae_, ac_, at_, ar_, leV, ap_, aq_, V.inn, us, T9_, Ta_]) (by simp only [go_sem, seval, ba_, av_, ae_, ac_, at_, ar_, leV, ap_, aq_, V.inn, us, T9_, Ta_] <;> ((have hk : k < l.length := (by simpa using h23)); (have e := l1_ hk hI.2.1 (by simpa using h28) (by simpa using h58) (by rw [hJ] at h53; simpa using h53) (by simp at h74; exact h74)); rw [e]; simp [jx_, hJ])))
      ·refine .skip (.rgn [] (by simp only [go_sem, seval, ba_, av_, ae_, ac_, at_]; rfl) ?_ ?_)
       ·first | trivial | simp
       refine Exists.intro (k + 1) ⟨?_, ?_, ?_⟩
       ·have hk : k < l.length := (by simpa using h23); have e := jt_ hk hI.2.1 (by simpa using h28) (by simpa using h58) (by rw [hJ] at h53; simpa using h53) (by simp at h74; exact h74.1) (by simp at h74; exact h74.2); exact ⟨by omega, by rw [e]; exact hI.2.1, hI.2.2⟩
       ·simp at h23; omega
       exact Can.weak (Weak.lit (by simp only [go_sem, seval, ba_, av_, ae_, ac_, at_, ar_, leV, ap_, aq_, V.inn, us, T9_, Ta_] <;> ((have hk : k < l.length := (by simpa using h23)); (have e := jt_ hk hI.2.1 (by simpa using h28) (by simpa using h58) (by rw [hJ] at h53; simpa using h53) (by simp at h74; exact h74.1) (by simp at h74; exact h74.2)); rw [e, bi_ (by omega) (by omega)]; simp)) (by simp only [go_sem, seval, ba_, av_, ae_, ac_, at_, ar_, leV, ap_, aq_, V.inn, us, T9_, Ta_]) (by simp only [go_sem, seval, ba_, av_, ae_, ac_, at_, ar_, leV, ap_, aq_, V.inn, us, T9_, Ta_] <;> ((have hk : k < l.length := (by simpa using h23)); (have e := jt_ hk hI.2.1 (by simpa using h28) (by simpa using h58) (by rw [hJ] at h53; simpa using h53) (by simp at h74; exact h74.1) (by simp at h74; exact h74.2)); rw [e]; simp)))
  ·refine .exit (.seq (.rgn [bx_ [22] [] (j4_ (bt_ (l.take k)).said (bt_ (l.take k)).said.length rfl (by have := (gs_ hI.1 (e2_ hI.2.2).2.1).2.2; omega))] (by simp only [go_sem, seval, ba_, av_, ae_, ac_, at_]; rfl) ?_ ?_))
   ·first | trivial | simp
   refine .ret ⟨.inr rfl, ?_⟩
   exact Out.mem' (by simp only [Tryz.results30]; rfl) (by simp only [az_, bc_, go_sem, seval, ba_, av_, ae_, ac_, at_]) (by simp only [bb_, rns, rn, go_sem, seval, ba_, av_, ae_, ac_, at_] <;> (rw [v8_ hI.2.2 (by simpa using h23) hI.2.1]; try simp)) (by simp) rfl (by decide) (by simp only [go_sem, seval, ba_, av_, ae_, ac_, at_]) (by simp only [ao_, go_sem, seval, ba_, av_, ae_, ac_, at_]) (by simp only [ai_, go_sem, seval, ba_, av_, ae_, ac_, at_] <;> (rw [v8_ hI.2.2 (by simpa using h23) hI.2.1]; (try simp [b7_, ac_])))
end
section
set_option maxRecDepth 100000
set_option maxHeartbeats 4000000
end
end Go.Proofs.YtcigkafioinfoaaGreatDoor
