/- What the program's search for a place answers (a range over slices.Backward). Conditions: none. -/
import Derived.RangeFuncBox
import Derived.RangeFuncLeaves
import Derived.Shelf.Abstract
import Derived.WalkKit
import Derived.OwnWalkIn
import Derived.TacticsInMore
import Derived.LoopNIn
import Derived.LoopIn
import Derived.Test.YtefmbmafdgedmaaGreatDoorMe
import Derived.Test.YtefmbmafdgedmaaGreatDoorM1
import Derived.Test.YtefmbmafdgedmaaGreatDoorMr
import Derived.RangeFuncNested
import Derived.Test.YtefmbmafdgedmaaGreatDoorM4
set_option linter.unusedVariables false
set_option linter.unusedSimpArgs false
namespace Go.Proofs.YtefmbmafdgedmaaGreatDoor
section
open Go.RowKit Go.Shelf
attribute [local go_sem] Oper.semAt_some
abbrev sgV (x : Sg) : Value := .agg #[.int .i64 x.1, .int .i64 x.2.1, .int .i64 x.2.2.1, .int .i64 x.2.2.2]
def sgAt (W : World) (b o : Nat) (x : Sg) : Prop := W.cell? ⟨b, o, none⟩ = some (.int .i64 x.1) ∧ W.cell? ⟨b, o + 1, none⟩ = some (.int .i64 x.2.1) ∧ W.cell? ⟨b, o + 2, none⟩ = some (.int .i64 x.2.2.1) ∧ W.cell? ⟨b, o + 3, none⟩ = some (.int .i64 x.2.2.2)
abbrev bkG (x : Int × Sg) : Array Value := #[.int .i64 x.1, sgV x.2]
abbrev bkH (l : List Sg) (j : Nat) : Int × Sg := ((j : Int), l.getD j G0)
set_option maxRecDepth 100000 in
set_option maxHeartbeats 4000000 in
theorem vf_ (F : Fence) (n : Nat) (h7 : F.fn 165) (hro : F.round = none) (hn : 1 ≤ n) (l Bs n₀ b off cap : Nat) (zs : List Sg) (hreach : zs.length * 16 ≤ 140737488351232) (hb : b < n₀) (J Jx : List (Int × Sg) → World → Prop)
  (hY : ∀ pre x W, J pre W → pre.length < zs.length → YieldAt F (n - 1) Tryz.prog l (bkG x) W fun e W' =>
   (e = .returned (.bool true) ∧ J (pre ++ [x]) W' ∧ Below n₀ W W') ∨ (e = .returned (.bool false) ∧ Jx (pre ++ [x]) W'))
  (W : World) (hBn : Bs < n₀) (hBs : W.cell? ⟨Bs, 0, none⟩ = some (.slice (some ⟨b, off, none⟩) zs.length cap)) (hc : ∀ j, j < zs.length → sgAt W b (off + j * 4) (zs.getD j G0)) (h0 : J [] W) :
  CallsIn F n Tryz.prog 165 #[.func (.yield l) #[] #[], .pointer (some ⟨Bs, 0, none⟩)] W fun e W' => (∃ v, e = .returned v) ∧
   ((∃ ys, ys = fv_ (bkH zs) zs.length 0 ∧ J ys W') ∨ (∃ pre, (∃ k, k ≤ zs.length ∧ pre = fv_ (bkH zs) zs.length k) ∧ Jx pre W')) := by
 refine callsIn_of_wp Tryz.func165 rfl h7 ?_ hro
 simp only [Tryz.ntmps165, List.size_toArray, List.length_cons, List.length_nil, Nat.reduceAdd, Nat.reduceSub, Array.replicate_succ, Array.replicate_zero, List.push_toArray, List.append_toArray, List.nil_append, List.cons_append]
 gi_wp2
 gi_loopw [3] (fun i wr => ∃ m : Nat, m ≤ zs.length ∧ i = .int .i64 ((m : Int) - 1) ∧ J (fv_ (bkH zs) zs.length m) wr ∧ Below n₀ W wr)
  (fun i _ => (intOf i + 1).toNat)
 case atStart => exact ⟨zs.length, Nat.le_refl _, by first | rfl | simp [a7_ (show -9223372036854775808 ≤ (zs.length : Int) - 1 by omega) (by omega)], by rw [oo_]; exact h0, Below.refl _ _⟩
 case round =>
  obtain ⟨m, hk, rfl, hJs, hnx⟩ := hrel
  have hBx : wr.cell? ⟨Bs, 0, none⟩ = some (.slice (some ⟨b, off, none⟩) zs.length cap) := (hnx.cell (p := ⟨Bs, 0, none⟩) hBn).trans hBs
  cases m with
  | zero =>
   gi_wp2
   go_end0
   exact ⟨⟨_, rfl⟩, .inl ⟨_, rfl, hJs⟩⟩
  | succ j =>
   have hi : (((j + 1 : Nat) : Int) - 1) = (j : Int) := by omega
   rw [hi]
   obtain ⟨d0, d1, d2, d3⟩ := hc j (by omega)
   have hcx0 := (hnx.cell (p := ⟨b, off + j * 4, none⟩) hb).trans d0
   have hcx1 := (hnx.cell (p := ⟨b, off + j * 4 + 1, none⟩) hb).trans d1
   have hcx2 := (hnx.cell (p := ⟨b, off + j * 4 + 2, none⟩) hb).trans d2
   have hcx3 := (hnx.cell (p := ⟨b, off + j * 4 + 3, none⟩) hb).trans d3
   clear d0 d1 d2 d3
   have hjl : j < zs.length := by omega
   have hst := l2_ (bkH zs) hjl
   simp only [bkH] at hst
   generalize zs.getD j G0 = v at hcx0 hcx1 hcx2 hcx3 hst
   obtain ⟨fn, tmps, assign, body, hy, hR⟩ := hY _ ((j : Int), v) wr hJs (by rw [vq_]; omega)
   dsimp only [bkG] at hy
   gi_wp2
   refine hR.mono ?_
   rintro e W3 (⟨rfl, hJ3, hk3⟩ | ⟨rfl, hJx3⟩)
   ·gi_wp2
    go_roundw
    case rel => exact ⟨j, by omega, by simp, by rw [hst]; exact hJ3, hnx.trans hk3⟩
    case measure => simp [intOf] <;> omega
   ·gi_wp2
    refine bodyPost_ret (results_none rfl _ _ _) rfl ?_
    exact ⟨⟨_, rfl⟩, .inr ⟨_, ⟨j, by omega, hst.symm⟩, hJx3⟩⟩
theorem wz_ (F : Fence) (n : Nat) (h5 : F.fn 107) (hro : F.round = none) (a : Option Addr) (len cap : Nat) (w : World) :
  CallsIn F n Tryz.prog 107 #[.slice a len cap] w fun e w' => e = .returned (.func (.func 165) #[] #[.pointer (some ⟨w.heap.size, 0, none⟩)]) ∧ w' = w.alloc (.cells #[.slice a len cap] 25) := by
 refine callsIn_of_wp Tryz.func107 rfl h5 ?_ hro
 simp only [Tryz.ntmps107, List.size_toArray, List.length_cons, List.length_nil, Nat.reduceAdd, Nat.reduceSub, Array.replicate_succ, Array.replicate_zero, List.push_toArray, List.append_toArray, List.nil_append, List.cons_append]
 gi_wp2
 go_ret
 exact ⟨rfl, rfl⟩
set_option maxRecDepth 100000 in
set_option maxHeartbeats 1000000 in
theorem m8_ (F : Fence) (n : Nat) (h7 : F.fn 165) (hro : F.round = none) (l Bs : Nat) (a : Option Addr) (cap : Nat) (J : List (Int × Sg) → World → Prop) (W : World) (hBs : W.cell? ⟨Bs, 0, none⟩ = some (.slice a 0 cap)) (h0 : J [] W) :
  CallsIn F n Tryz.prog 165 #[.func (.yield l) #[] #[], .pointer (some ⟨Bs, 0, none⟩)] W fun e W' => (∃ v, e = .returned v) ∧ J [] W' := by
 refine callsIn_of_wp Tryz.func165 rfl h7 ?_ hro
 simp only [Tryz.ntmps165, List.size_toArray, List.length_cons, List.length_nil, Nat.reduceAdd, Nat.reduceSub, Array.replicate_succ, Array.replicate_zero, List.push_toArray, List.append_toArray, List.nil_append, List.cons_append]
 gi_wp2
 gi_loopw [3] (fun i wr => i = .int .i64 (-1) ∧ J [] wr) (fun _ _ => 0)
 case atStart => exact ⟨rfl, h0⟩
 case round =>
  obtain ⟨rfl, hJs⟩ := hrel
  gi_wp2
  go_end0
  exact ⟨⟨_, rfl⟩, hJs⟩
end
section
open Go.RowKit Go.Shelf
attribute [local go_sem] Oper.semAt_some
def SegsAt (n₀ : Nat) (W : World) (sv : Value) (zs : List Sg) : Prop :=
 ∃ A cap, sv = .slice A zs.length cap ∧ (zs ≠ [] → ∃ b off, A = some ⟨b, off, none⟩ ∧ b < n₀ ∧ ∀ j, j < zs.length → sgAt W b (off + j * 4) (zs.getD j G0))
theorem sgAt.below {n₀ b o : Nat} {A B : World} {x : Sg} (h : Below n₀ A B) (hb : b < n₀) : sgAt A b o x → sgAt B b o x
 | ⟨h0, h1, h2, h3⟩ => ⟨(h.cell (p := ⟨b, o, none⟩) hb).trans h0, (h.cell (p := ⟨b, o + 1, none⟩) hb).trans h1, (h.cell (p := ⟨b, o + 2, none⟩) hb).trans h2, (h.cell (p := ⟨b, o + 3, none⟩) hb).trans h3⟩
theorem SegsAt.below {n₀ : Nat} {A B : World} (h : Below n₀ A B) {sv : Value} {zs : List Sg} : SegsAt n₀ A sv zs → SegsAt n₀ B sv zs
 | ⟨a, cap, e, k⟩ => ⟨a, cap, e, fun hne => let ⟨b, off, e2, hb, hc⟩ := k hne; ⟨b, off, e2, hb, fun j hj => (hc j hj).below h hb⟩⟩
theorem rz_ (F : Fence) (n : Nat) (h7 : F.fn 165) (hro : F.round = none) (hn : 1 ≤ n) (Bs n₀ : Nat) (sv : Value) (zs : List Sg) (hreach : zs.length * 16 ≤ 140737488351232) (w : World) (hBs : Bs < w.heap.size) (hn₀ : n₀ ≤ w.heap.size) (hBn : Bs < n₀)
  (hc : w.cell? ⟨Bs, 0, none⟩ = some sv) (hI : SegsAt n₀ w sv zs) :
  SeqStopsK F n Tryz.prog 165 #[.pointer (some ⟨Bs, 0, none⟩)] bkG (Below n₀) (fun ys => ys = fv_ (bkH zs) zs.length 0) (fun pre => ∃ k, k ≤ zs.length ∧ pre = fv_ (bkH zs) zs.length k) zs.length w := fun l J Jx W hW _ _ hY h0 => by
 have hc' := (hW.cell (p := ⟨Bs, 0, none⟩) hBs).trans hc
 obtain ⟨A, cap, rfl, hne⟩ := hI.below (hW.mono hn₀)
 by_cases hz : zs = []
 ·subst hz
  exact (m8_ F n h7 hro l Bs A cap J W hc' h0).mono fun e W' ⟨he, hj⟩ => ⟨he, .inl ⟨_, rfl, hj⟩⟩
 ·obtain ⟨b, off, rfl, hb, hcs⟩ := hne hz
  exact vf_ F n h7 hro hn l Bs n₀ b off cap zs hreach hb J Jx hY W hBn hc' hcs h0
def BoxA (W : World) (B : Nat) (t : TypeId) (vs : Array Value) : Prop := W.heap[B]? = some (.cells vs t (0, 0))
theorem BoxA.lt {W : World} {B : Nat} {t : TypeId} {vs : Array Value} (h : BoxA W B t vs) : B < W.heap.size := (Array.getElem?_eq_some_iff.1 h).1
theorem BoxA.cell {W : World} {B : Nat} {t : TypeId} {vs : Array Value} (h : BoxA W B t vs) (j : Nat) : W.cell? ⟨B, j, none⟩ = vs[j]? := by simp [World.cell?, show W.heap[B]? = _ from h]
theorem BoxA.frozen {W : World} {B : Nat} {t : TypeId} {vs : Array Value} (h : BoxA W B t vs) (j : Nat) : W.frozen? ⟨B, j, none⟩ = false := by simp [World.frozen?, show W.heap[B]? = _ from h]
theorem BoxA.new (W : World) (t : TypeId) (vs : Array Value) : BoxA (W.alloc (.cells vs t)) W.heap.size t vs := World.alloc_heap_new W _
theorem BoxA.kept {W W' : World} {row : Option Nat} {B : Nat} {t : TypeId} {vs : Array Value} (h : BoxA W B t vs) (hg : W.grownBy W' row) (hne : some B ≠ row) : BoxA W' B t vs := (hg.block B h.lt hne).trans h
theorem BoxA.alloc {W : World} {B : Nat} {t : TypeId} {vs : Array Value} (h : BoxA W B t vs) (o : Obj) : BoxA (W.alloc o) B t vs := h.kept (World.grownBy_alloc W o none) (by simp)
theorem fm_ {β : Type} (B : Nat) (t : TypeId) (f : β → Array Value) : Own (fun s W => BoxA W B t (f s)) := fun s X Y row hs hg hrow =>
 hs.kept hg (fun e' => by obtain ⟨o, ho, hc⟩ := hrow B e'.symm; rw [show X.heap[B]? = _ from hs] at ho; cases ho; cases hc)
theorem BoxA.set0 {W : World} {B : Nat} {t : TypeId} {x y : Value} (v : Value) (h : BoxA W B t #[x, y]) : BoxA (W.setCell ⟨B, 0, none⟩ v) B t #[v, y] := by
 obtain ⟨hlt, hk⟩ := Array.getElem?_eq_some_iff.1 h
 show (W.heap.modify B _)[B]? = _
 rw [Array.getElem?_eq_getElem (by rw [Array.size_modify]; exact hlt), Array.getElem_modify_self, hk]
 rfl
theorem BoxA.set1 {W : World} {B : Nat} {t : TypeId} {x y : Value} (v : Value) (h : BoxA W B t #[x, y]) : BoxA (W.setCell ⟨B, 1, none⟩ v) B t #[x, v] := by
 obtain ⟨hlt, hk⟩ := Array.getElem?_eq_some_iff.1 h
 show (W.heap.modify B _)[B]? = _
 rw [Array.getElem?_eq_getElem (by rw [Array.size_modify]; exact hlt), Array.getElem_modify_self, hk]
 rfl
theorem BoxA.setT {W : World} {B : Nat} {t : TypeId} {x : Value} (v : Value) (h : BoxA W B t #[x]) : BoxA (W.setCell ⟨B, 0, none⟩ v) B t #[v] := by
 obtain ⟨hlt, hk⟩ := Array.getElem?_eq_some_iff.1 h
 show (W.heap.modify B _)[B]? = _
 rw [Array.getElem?_eq_getElem (by rw [Array.size_modify]; exact hlt), Array.getElem_modify_self, hk]
 rfl
theorem BoxA.other {W : World} {B B' j : Nat} {t : TypeId} {vs : Array Value} (v : Value) (h : BoxA W B t vs) (hne : B ≠ B') : BoxA (W.setCell ⟨B', j, none⟩ v) B t vs := (Below.heap_setCell _ _ _ B (fun e => hne (by first | exact e | exact e.symm))).trans h
def oy_ (L c : Int) (pre : List (Int × Sg)) : Prop := ∀ p ∈ pre, ¬ (p.2.1 = L ∧ p.2.2.1 ≤ c)
def agg_ (L c : Int) (B : Nat) (t : TypeId) (pre : List (Int × Sg)) (W : World) : Prop := ∃ ini last, pre = ini ++ [last] ∧ oy_ L c ini ∧ (last.2.1 = L ∧ last.2.2.1 ≤ c) ∧ BoxA W B t #[.int .i64 last.2.2.2.1, .int .i64 last.2.2.2.2]
theorem sg_ {L c : Int} {pre : List (Int × Sg)} {x : Int × Sg} (h : oy_ L c pre) (hx : ¬ (x.2.1 = L ∧ x.2.2.1 ≤ c)) : oy_ L c (pre ++ [x]) := fun p hp => by
 rcases List.mem_append.1 hp with hp | hp
 ·exact h p hp
 ·rw [List.mem_singleton] at hp; subst hp; exact hx
def adi_ : Option Sg → Value
 | some x => .tuple #[.agg #[.int .i64 x.2.2.1, .int .i64 x.2.2.2], .bool true]
 | none => .tuple #[.agg #[.int .i64 0, .int .i64 0], .bool false]
theorem mi_ {l : List Sg} {L c : Int} : ∀ n, (∀ j, j < n → ¬ ((l.getD j G0).1 = L ∧ (l.getD j G0).2.1 ≤ c)) → n3_ l L c n = none
 | 0, _ => rfl
 | n + 1, h => by
  rw [n3_, if_neg (h n (by omega))]
  exact mi_ n fun j hj => h j (by omega)
set_option maxRecDepth 100000 in
set_option maxHeartbeats 4000000 in
theorem abn_ (F : Fence) (n : Nat) (h4 : F.fn 56) (h6 : F.fn 107) (h8 : F.fn 165) (hro : F.round = none) (hn : 3 ≤ n) (a : Option Addr) (cap : Nat) (zs : List Sg) (L c : Int) (hreach : zs.length * 16 ≤ 140737488351232) (w : World) (hI : SegsAt w.heap.size w (.slice a zs.length cap) zs) :
  CallsIn F n Tryz.prog 56 #[.slice a zs.length cap, .agg #[.int .i64 L, .int .i64 c]] w fun e W' => e = .returned (adi_ (le_ zs L c)) ∧ Below w.heap.size w W' := by
 have h1 : 1 ≤ n := by omega
 refine callsIn_of_wp_marks Tryz.func56 rfl h4 ?_ hro
 simp only [Tryz.ntmps56, List.size_toArray, List.length_cons, List.length_nil, Nat.reduceAdd, Nat.reduceSub, Array.replicate_succ, Array.replicate_zero, List.push_toArray, List.append_toArray, List.nil_append, List.cons_append]
 gi_wp2_with (gi_at_call 107; refine (wz_ F (n - 1) h6 hro _ _ _ _).mono ?_; rintro e w' ⟨rfl, rfl⟩)
 have bP := (((BoxA.new w 36 #[.int .i64 L, .int .i64 c]).alloc (.cells #[.int .i64 0, .int .i64 0] 36)).alloc (.cells #[.bool false] 4)).alloc (.cells #[.slice a zs.length cap] 25)
 have bR := ((BoxA.new (w.alloc (.cells #[.int .i64 L, .int .i64 c] 36)) 36 #[.int .i64 0, .int .i64 0]).alloc (.cells #[.bool false] 4)).alloc (.cells #[.slice a zs.length cap] 25)
 have bT := (BoxA.new ((w.alloc (.cells #[.int .i64 L, .int .i64 c] 36)).alloc (.cells #[.int .i64 0, .int .i64 0] 36)) 4 #[.bool false]).alloc (.cells #[.slice a zs.length cap] 25)
 have bS := BoxA.new (((w.alloc (.cells #[.int .i64 L, .int .i64 c] 36)).alloc (.cells #[.int .i64 0, .int .i64 0] 36)).alloc (.cells #[.bool false] 4)) 25 #[.slice a zs.length cap]
 simp only [World.size_alloc] at bR bT bS
 have hB0 : Below w.heap.size w ((((w.alloc (.cells #[.int .i64 L, .int .i64 c] 36)).alloc (.cells #[.int .i64 0, .int .i64 0] 36)).alloc (.cells #[.bool false] 4)).alloc (.cells #[.slice a zs.length cap] 25)) := ((((Below.refl _ w).alloc (Nat.le_refl _) _).alloc (by simp) _).alloc (by simp only [World.size_alloc]; omega) _).alloc (by simp only [World.size_alloc]; omega) _
 have hsz : ((((w.alloc (.cells #[.int .i64 L, .int .i64 c] 36)).alloc (.cells #[.int .i64 0, .int .i64 0] 36)).alloc (.cells #[.bool false] 4)).alloc (.cells #[.slice a zs.length cap] 25)).heap.size = w.heap.size + 4 := by simp
 obtain ⟨W0, hW0⟩ : ∃ W0, ((((w.alloc (.cells #[.int .i64 L, .int .i64 c] 36)).alloc (.cells #[.int .i64 0, .int .i64 0] 36)).alloc (.cells #[.bool false] 4)).alloc (.cells #[.slice a zs.length cap] 25)) = W0 := ⟨_, rfl⟩
 rw [hW0] at bP bR bT bS hB0 hsz ⊢
 clear hW0
 refine wpIn_rangeFunc_ownH hro h1 (gf := 165) (lb := #[.pointer (some ⟨w.heap.size + 1 + 1 + 1, 0, none⟩)]) rfl h8 (enters_of Tryz.func165 (by kernel_rfl) rfl)
  (rz_ F (n - 1) h8 hro (by omega) (w.heap.size + 1 + 1 + 1) (w.heap.size + 4) _ zs hreach W0 (by omega) (by omega) (by omega) (bS.cell 0) (by obtain ⟨A, c', e, k⟩ := hI.below hB0; exact ⟨A, c', e, fun hne => let ⟨b, off, e2, hb, hc⟩ := k hne; ⟨b, off, e2, by omega, hc⟩⟩)) belowK_t (belowK_b (by omega)) (Below.refl _ _) (fun _ => rfl)
  (fun pre W => ((((oy_ L c pre ∧ BoxA W w.heap.size 36 #[.int .i64 L, .int .i64 c]) ∧ BoxA W (w.heap.size + 1) 36 #[.int .i64 0, .int .i64 0]) ∧ BoxA W (w.heap.size + 1 + 1) 4 #[.bool false]) ∧ BoxA W (w.heap.size + 1 + 1 + 1) 25 #[.slice a zs.length cap]) ∧ Below w.heap.size w W)
  (fun e pre W => ((e = .ret ∧ agg_ L c (w.heap.size + 1) 36 pre W) ∧ BoxA W (w.heap.size + 1 + 1) 4 #[.bool true]) ∧ Below w.heap.size w W)
  (OwnFrom.and (OwnFrom.and (OwnFrom.and (OwnFrom.and (OwnFrom.and (ownFrom_pure _ _) (Own.from (fm_ _ _ _) _)) (Own.from (fm_ _ _ _) _)) (Own.from (fm_ _ _ _) _)) (Own.from (fm_ _ _ _) _)) (ownFrom_below (Nat.le_refl _) (by omega)))
  (fun e => OwnFrom.and (OwnFrom.and (fun s X Y row hs hg hr => by obtain ⟨e1, ini, last, e2, e3, e4, e5⟩ := hs; exact ⟨e1, ini, last, e2, e3, e4, fm_ _ _ (fun (_ : Unit) => _) () X Y row e5 hg (fun r e => (hr r e).2)⟩) (Own.from (fm_ _ _ _) _)) (ownFrom_below (Nat.le_refl _) (by omega)))
  ⟨⟨⟨⟨⟨fun p hp => by simp at hp, bP⟩, bR⟩, bT⟩, bS⟩, hB0⟩
  (fun x a' W => ∃ Bx, w.heap.size + 1 + 1 < Bx ∧ BoxA W Bx 38 #[.int .i64 x.2.1, .int .i64 x.2.2.1, .int .i64 x.2.2.2.1, .int .i64 x.2.2.2.2] ∧ a' = { tmps := #[.slice a zs.length cap, .agg #[.int .i64 L, .int .i64 c], undef, .pointer (some ⟨w.heap.size, 0, none⟩), .pointer (some ⟨w.heap.size + 1, 0, none⟩), .pointer (some ⟨w.heap.size + 1 + 1, 0, none⟩), undef, .pointer (some ⟨Bx, 0, none⟩), .slice a zs.length cap, .func (.func 165) #[] #[.pointer (some ⟨w.heap.size + 1 + 1 + 1, 0, none⟩)], .int .i64 x.1, sgV x.2, undef, undef, undef, undef, undef, undef, undef, undef, undef, undef, undef, undef, undef, undef, undef, undef, undef], defers := [] })
  (fun x a' _ X Y row hs hg hr => by obtain ⟨Bx, e1, e2, e3⟩ := hs; exact ⟨Bx, e1, fm_ Bx _ (fun (_ : Unit) => _) () X Y row e2 hg (fun r e => (hr r e).2), e3⟩)
  ?assign ?body ?done ?stop
 case assign =>
  rintro l pre x W K ⟨⟨⟨⟨⟨hp, bP1⟩, bR1⟩, bT1⟩, bS1⟩, hB1⟩ hK
  have hlt1 := bS1.lt
  gi_wp2
  exact hK _ _ ((KeepsOthers.alloc _ _).from _) ((Below.refl _ W).alloc (by omega) _) ⟨⟨⟨⟨⟨hp, bP1.alloc _⟩, bR1.alloc _⟩, bT1.alloc _⟩, bS1.alloc _⟩, hB1.alloc hB1.size _⟩ ⟨W.heap.size, bT1.lt, BoxA.new W _ _, rfl⟩
 case body =>
  rintro l pre ⟨x0, x1, x2, x3, x4⟩ a' W hl ⟨r, hr⟩ ⟨⟨⟨⟨⟨hp, bP1⟩, bR1⟩, bT1⟩, bS1⟩, hB1⟩ ⟨Bx, hBx, bX, rfl⟩ hlt
  have cP0 := bP1.cell 0
  have cP1 := bP1.cell 1
  have cX0 := bX.cell 0
  have cX1 := bX.cell 1
  have cX2 := bX.cell 2
  have cX3 := bX.cell 3
  have cR0 := bR1.cell 0
  have cR1 := bR1.cell 1
  have fR0 := bR1.frozen 0
  have fR1 := bR1.frozen 1
  have cT0 := bT1.cell 0
  have fT0 := bT1.frozen 0
  simp at cP0 cP1 cX0 cX1 cX2 cX3 cR0 cR1 cT0
  gi_wp2
  ·exact ⟨(((KeepsOthers.setCell _ _ _).from _).trans ((KeepsOthers.setCell _ _ _).from _)).trans ((KeepsOthers.setCell _ _ _).from _), ⟨⟨rfl, pre, _, rfl, hp, ⟨by first | rfl | (simp_all; done), by first | assumption | (simp_all; done)⟩, ((bR1.set0 _).set1 _).other _ (by omega)⟩, ((bT1.other _ (by omega)).other _ (by omega)).setT _⟩, ((hB1.setCell (p := ⟨w.heap.size + 1, 0, none⟩) (by simp) _).setCell (p := ⟨w.heap.size + 1, 1, none⟩) (by simp) _).setCell (p := ⟨w.heap.size + 1 + 1, 0, none⟩) (by simp; omega) _⟩
  all_goals exact ⟨KeepsFrom.refl _ _, Below.refl _ _, ⟨⟨⟨⟨sg_ hp (by simp_all <;> omega), bP1⟩, bR1⟩, bT1⟩, bS1⟩, hB1⟩
 case done =>
  rintro D ys W hD rfl ⟨⟨⟨⟨⟨hp, bP1⟩, bR1⟩, bT1⟩, bS1⟩, hB1⟩ hK
  have cR0 := bR1.cell 0
  have cR1 := bR1.cell 1
  have fR0 := bR1.frozen 0
  have fR1 := bR1.frozen 1
  have cT0 := bT1.cell 0
  have fT0 := bT1.frozen 0
  simp at cR0 cR1 cT0
  gi_wp2
  have hK1 := (KeepsOthers.setCell W ⟨w.heap.size + 1, 0, none⟩ (.int .i64 0)).same D _ hK rfl
  have hK2 := (KeepsOthers.setCell _ ⟨w.heap.size + 1, 1, none⟩ (.int .i64 0)).same D _ hK1 rfl
  have hK3 := (KeepsOthers.setCell _ ⟨w.heap.size + 1 + 1, 0, none⟩ (.bool false)).same D _ hK2 rfl
  have bR3 := (((bR1.set0 (.int .i64 0)).set1 (.int .i64 0)).other (B' := w.heap.size + 1 + 1) (j := 0) (.bool false) (by omega)).kept (grownBy_putObj' _ D (.deferred none)) (by simp; omega)
  have bT3 := (((bT1.other (B' := w.heap.size + 1) (j := 0) (.int .i64 0) (by omega)).other (B' := w.heap.size + 1) (j := 1) (.int .i64 0) (by omega)).setT (.bool false)).kept (grownBy_putObj' _ D (.deferred none)) (by simp; omega)
  have c0 := bR3.cell 0
  have c1 := bR3.cell 1
  have c2 := bT3.cell 0
  simp at c0 c1 c2
  refine ⟨by simp, .inl ⟨_, _, rfl, run_takeDeferred hK3, ?_⟩⟩
  refine ⟨.tuple #[.agg #[.int .i64 0, .int .i64 0], .bool false], ?_, ?_, (((hB1.setCell (p := ⟨w.heap.size + 1, 0, none⟩) (by simp) _).setCell (p := ⟨w.heap.size + 1, 1, none⟩) (by simp) _).setCell (p := ⟨w.heap.size + 1 + 1, 0, none⟩) (by simp; omega) _).trans (belowK_b (w := w) (Nat.le_refl _) _ D _ _ (by (try simp at hD); omega) hK3 rfl rfl)⟩
  ·simp [results, Tryz.f56, go_sem, c0, c1, c2]
  ·rw [show le_ zs L c = none from mi_ _ fun j hj => hp (bkH zs j) (nt_ _ (Nat.zero_le _) hj)]; rfl
 case stop =>
  rintro D c pre W hD ⟨m, hk, rfl⟩ ⟨⟨⟨rfl, ini, last, e1, e2, e3, bR1⟩, bT1⟩, hB1⟩ hK
  gi_wp2
  refine ⟨by simp, .inl ⟨_, _, rfl, run_takeDeferred hK, ?_⟩⟩
  have bR3 := bR1.kept (grownBy_putObj' _ D (.deferred none)) (by simp; omega)
  have bT3 := bT1.kept (grownBy_putObj' _ D (.deferred none)) (by simp; omega)
  have c0 := bR3.cell 0
  have c1 := bR3.cell 1
  have c2 := bT3.cell 0
  simp at c0 c1 c2
  have hml : m < zs.length := by
   rcases Nat.lt_or_ge m zs.length with h | h
   ·exact h
   ·obtain rfl : m = zs.length := by omega
    rw [oo_] at e1; simp at e1
  rw [l2_ _ hml] at e1
  obtain ⟨rfl, e5⟩ := List.append_inj' e1 rfl
  obtain rfl : bkH zs m = last := by simpa using e5
  refine ⟨.tuple #[.agg #[.int .i64 (bkH zs m).2.2.2.1, .int .i64 (bkH zs m).2.2.2.2], .bool true], ?_, ?_, hB1.trans (belowK_b (w := w) (Nat.le_refl _) W D _ _ (by (try simp at hD); omega) hK rfl rfl)⟩
  ·simp [results, Tryz.f56, go_sem, c0, c1, c2]
  ·rw [show le_ zs L c = some (zs.getD m G0) from ju_ e3 _ hml fun j h1 h2 => e2 (bkH zs j) (nt_ _ h1 h2)]; rfl
theorem adc_ {φ : Phi} {S : Nat → Prop} {w : World} : ∀ {l : List Sg} {xs : List Value}, VRr φ S w 4 (sgR l) xs → xs = l.flatMap fun x => [.int .i64 x.1, .int .i64 x.2.1, .int .i64 x.2.2.1, .int .i64 x.2.2.2]
 | [], xs, h => by simpa [sgR, VRr] using h
 | s :: l, xs, h => by
  simp only [sgR, List.map_cons, VRr] at h
  obtain ⟨ys, zs, rfl, _, h2, _, h3⟩ := h
  simp only [sgC, VRs, VR] at h2
  obtain ⟨x1, r1, rfl, rfl, x2, r2, rfl, rfl, x3, r3, rfl, rfl, x4, r4, rfl, rfl, rfl⟩ := h2
  rw [adc_ h3]; rfl
theorem agp_ {l : List Sg} {j : Nat} (h : j < l.length) : let f : Sg → List Value := fun x => [.int .i64 x.1, .int .i64 x.2.1, .int .i64 x.2.2.1, .int .i64 x.2.2.2]
  (l.flatMap f)[j * 4]? = some (.int .i64 (l.getD j G0).1) ∧ (l.flatMap f)[j * 4 + 1]? = some (.int .i64 (l.getD j G0).2.1) ∧ (l.flatMap f)[j * 4 + 2]? = some (.int .i64 (l.getD j G0).2.2.1) ∧ (l.flatMap f)[j * 4 + 3]? = some (.int .i64 (l.getD j G0).2.2.2) := by
 intro f
 induction l generalizing j with
 | nil => simp at h
 | cons x l ih =>
  cases j with
  | zero => simp [f]
  | succ j =>
   have := ih (j := j) (by simpa using h)
   have e : ∀ k, (List.flatMap f (x :: l))[(j + 1) * 4 + k]? = (List.flatMap f l)[j * 4 + k]? := fun k => by
    rw [List.flatMap_cons, List.getElem?_append_right (by simp [f]; omega)]
    congr 1
    simp [f]; omega
   have e0 := e 0
   simp only [Nat.add_zero] at e0
   rw [e0, e 1, e 2, e 3]
   simpa using this
def lkL : Option Sg → Int
 | some x => x.2.2.1
 | none => 0
def lkC : Option Sg → Int
 | some x => x.2.2.2
 | none => 0
abbrev acw_ (o : Option Sg) : List V := [.ag [.i .i64 (lkL o), .i .i64 (lkC o)], .b o.isSome]
theorem aal_ {S : Nat → Prop} {w w' : World} (o : Option Sg) (h : Below w.heap.size w w') : ∃ ys, adi_ o = fw_ ys ∧ Below w.heap.size w w' ∧ VRs (fun _ => none) (fun g => S g ∨ w.heap.size ≤ g) w' (acw_ o) ys := by
 cases o <;> exact ⟨[_, _], rfl, h, .cons (by simp only [VR]; exact ⟨_, rfl, .cons (by simp only [VR] <;> rfl) (.cons (by simp only [VR] <;> rfl) .nil)⟩) (.cons (by simp only [VR] <;> rfl) .nil)⟩
theorem aer_ (l : List Sg) (L c : Int) (hl : l.length ≤ 1000000000000) : ACall En 56 [.sl false (sgR l), .ag [.i .i64 L, .i .i64 c]] [] (acw_ (le_ l L c)) [] := by
 refine fg_ (fn := Tryz.f56) Tryz.func56 rfl rfl fun S w xs hx _ _ => ?_
 simp only [VRs, VR] at hx
 obtain ⟨x, r, e1, ⟨A, cp, z, ys, rfl, h2, h3, h4, h5, h6⟩, y, q, rfl, ⟨pv, rfl, u1, p1, hpv, rfl, u2, p2, rfl, rfl, rfl⟩, rfl⟩ := hx
 obtain rfl : pv = #[.int .i64 L, .int .i64 c] := by apply Array.ext'; simpa using hpv
 obtain rfl : xs = #[.slice A (sgR l).length cp, .agg #[.int .i64 L, .int .i64 c]] := by apply Array.ext'; simpa using e1
 rw [an_] at *
 have hI : SegsAt w.heap.size w (.slice A l.length cp) l := by
  refine ⟨A, cp, rfl, fun hne => ?_⟩
  have hz : z = 4 := by
   cases l with
   | nil => exact absurd rfl hne
   | cons x l => exact (h6.rowlen _ (List.mem_cons_self)).symm
  subst hz
  have hv := adc_ h6
  obtain ⟨g, o, rfl, _, hg, hcell⟩ := h5 (by rw [hv]; cases l with | nil => exact absurd rfl hne | cons x l => simp)
  refine ⟨g, o, rfl, hg, fun j hj => ?_⟩
  obtain ⟨f0, f1, f2, f3⟩ := agp_ hj
  rw [← hv] at f0 f1 f2 f3
  exact ⟨hcell _ _ f0, by have := hcell _ _ f1; rwa [← Nat.add_assoc] at this, by have := hcell _ _ f2; rwa [← Nat.add_assoc] at this, by have := hcell _ _ f3; rwa [← Nat.add_assoc] at this⟩
 refine (callsIn_wide (n := 3)).1 ((abn_ _ 3 trivial trivial trivial rfl (by omega) A cp l L c (by omega) w hI).mono ?_)
 rintro e w' ⟨rfl, h⟩
 obtain ⟨ys, q1, q2, q3⟩ := aal_ (S := S) (le_ l L c) h
 exact ⟨ys, by rw [q1], q2, q3⟩
end
section
set_option maxRecDepth 100000
set_option maxHeartbeats 4000000
theorem wg_ (l : List Sg) (L c : Int) (hl : l.length ≤ 1000000000000) : ACall En 17 [.sl false (sgR l), .ag [.i .i64 L, .i .i64 c]] [] [.ag [.i .i64 (lkL (lv_ l L c)), .i .i64 (lkC (lv_ l L c))], .b (lv_ l L c).isSome] [] := by
 refine ap_ (fn := Tryz.f17) [] Tryz.func17 rfl rfl (by simp) fun C => ?_
 rw [a0_]
 simp only [Tryz.ntmps17, List.length_cons, List.length_nil, Nat.reduceAdd, Nat.reduceSub, List.replicate_succ, List.replicate_zero, List.cons_append, List.nil_append, bq_]
 refine .seq (.rgn [] (by simp only [go_sem, seval, af_]; rfl) ?_ ?_)
 ·first | trivial | simp
 refine .seq (.seq (.rgn [a5_ (sb_ l hl)] (by simp only [go_sem, seval, af_]; rfl) ?_ ?_))
 ·first | trivial | simp
 refine .condB (by simp only [go_sem, seval, af_]; rfl) (by simp only [go_sem, seval, af_]) (fun h8 => ?_) (fun h8 => ?_)
 ·refine .seq (.rgn [] (by simp only [go_sem, seval, af_]; rfl) ?_ ?_)
  ·first | trivial | simp
  refine .ret ⟨.inr rfl, ?_⟩
  exact Out.plain (by simp only [Tryz.results17]; rfl) (by simp only [a1_, bc_, go_sem, seval, af_] <;> (split <;> rfl)) (by simp only [ba_, go_sem, seval, af_] <;> (simp at h8; simp [lv_, h8, lkL, lkC])) (by simp only [go_sem, seval, af_])
 ·refine .skip (.seq (.rgn [a5_ (aer_ l L c hl)] (by simp only [go_sem, seval, af_]; rfl) ?_ ?_))
  ·first | trivial | simp
  refine .ret ⟨.inr rfl, ?_⟩
  exact Out.plain (by simp only [Tryz.results17]; rfl) (by simp only [a1_, bc_, go_sem, seval, af_] <;> (split <;> rfl)) (by simp only [ba_, go_sem, seval, af_] <;> (simp at h8; simp [lv_, h8])) (by simp only [go_sem, seval, af_])
def toR (l : List Sg) : List (List V) := l.map fun x => [.i .i64 x.1, .i .i64 x.2.1]
theorem bi_ (l : List Sg) : (toR l).length = l.length := by simp [toR]
theorem bf_ : ∀ l : List Sg, b4_ (toR l) = true
 | [] => rfl
 | x :: l => by
  show b4_ ([.i .i64 x.1, .i .i64 x.2.1] :: toR l) = true
  simp only [b4_, cr_, V.pure, bf_ l, Bool.and_self]
theorem fz_ {l : List Sg} {L c : Int} {k : Nat} (h : k < l.length) : (l.take (k + 1)).filter (ea_ L c) = (l.take k).filter (ea_ L c) ++ (if ea_ L c (l.getD k G0) then [l.getD k G0] else []) := by
 rw [List.take_add_one, List.getElem?_eq_getElem h, List.filter_append, List.getD_eq_getElem?_getD, List.getElem?_eq_getElem h]
 simp only [Option.toList_some, List.filter_cons, List.filter_nil, Option.getD_some]
theorem u7_ (l : List Sg) (hl : l.length < 1099511627776) : ACall En 57 [.ow 0 2 0 l.length] [⟨36, 2, toR l⟩] [.ow 0 2 0 l.length] [⟨36, 2, toR l⟩] := by
 refine ap_ (fn := Tryz.f57) [0] Tryz.func57 rfl rfl (by simp) fun C => ?_
 rw [a0_]
 simp only [Tryz.ntmps57, List.length_cons, List.length_nil, Nat.reduceAdd, Nat.reduceSub, List.replicate_succ, List.replicate_zero, List.cons_append, List.nil_append, bq_]
 refine .seq (.rgn [] (by simp only [go_sem, seval, bf_, bi_]; rfl) ?_ ?_)
 ·first | trivial | simp
 refine .seq (.rgn [] (by simp only [go_sem, seval, bf_, bi_]; rfl) ?_ ?_)
 ·first | trivial | simp
 refine .ret ⟨.inr rfl, ?_⟩
 exact Out.mem' (by simp only [Tryz.results57]; rfl) (by simp only [a1_, bc_, go_sem, seval, bf_, bi_]) (by simp only [ba_, rns, rn, go_sem, seval, bf_, bi_] <;> (simp)) (by simp) rfl (by decide) (by simp only [go_sem, seval, bf_, bi_]) (by simp only [ar_, go_sem, seval, bf_, bi_]) (by simp only [al_, go_sem, seval, bf_, bi_] <;> (simp [cv_, bf_]))
theorem adw_ (x : Sg) (L c : Int) : (some ([x.2.2.1, x.2.2.2] : List Int) == some [L, c]) = ea_ L c x := by
 rw [Bool.eq_iff_iff]; simp [ea_]
theorem wh_ (l : List Sg) (L c : Int) (hl : l.length ≤ 1000000000) : ACall En 18 [.sl false (sgR l), .ag [.i .i64 L, .i .i64 c]] [] [.sl false (toR (qb_ l L c))] [] := by
 have hF : ∀ k, ((l.take k).filter (ea_ L c)).length ≤ k := fun k => Nat.le_trans (List.length_filter_le _ _) (by rw [List.length_take]; omega)
 have hb := adw_
 refine ap_ (fn := Tryz.f18) [] Tryz.func18 rfl rfl (by simp) fun C => ?_
 rw [a0_]
 simp only [Tryz.ntmps18, List.length_cons, List.length_nil, Nat.reduceAdd, Nat.reduceSub, List.replicate_succ, List.replicate_zero, List.cons_append, List.nil_append, bq_]
 refine .seq (.rgn [] (by simp only [go_sem, seval, al_, ar_, an_, af_, bf_, bi_, bl_, bm_, a9_, bk_, hb]; rfl) ?_ ?_)
 ·(first | trivial | (simp; done) | (simp only [decide_eq_true_eq] at h14; and_intros <;> omega) | (have := hF k; simp [bi_]; omega))
 refine .seq (.seq (.rgn [a5_ (sb_ l (by omega))] (by simp only [go_sem, seval, al_, ar_, an_, af_, bf_, bi_, bl_, bm_, a9_, bk_, hb]; rfl) ?_ ?_))
 ·(first | trivial | (simp; done) | (simp only [decide_eq_true_eq] at h14; and_intros <;> omega) | (have := hF k; simp [bi_]; omega))
 refine .condB (by simp only [go_sem, seval, al_, ar_, an_, af_, bf_, bi_, bl_, bm_, a9_, bk_, hb]; rfl) (by simp only [go_sem, seval, al_, ar_, an_, af_, bf_, bi_, bl_, bm_, a9_, bk_, hb]) (fun h10 => ?_) (fun h10 => ?_)
 ·refine .seq (.rgn [] (by simp only [go_sem, seval, al_, ar_, an_, af_, bf_, bi_, bl_, bm_, a9_, bk_, hb]; rfl) ?_ ?_)
  ·(first | trivial | (simp; done) | (simp only [decide_eq_true_eq] at h14; and_intros <;> omega) | (have := hF k; simp [bi_]; omega))
  refine .ret ⟨.inr rfl, ?_⟩
  exact Out.plainL (by simp only [Tryz.results18]; rfl) (by simp only [a1_, bc_, go_sem, seval, al_, ar_, an_, af_, bf_, bi_, bl_, bm_, a9_, bk_, hb] <;> (split <;> rfl)) (by simp only [ba_, go_sem, seval, al_, ar_, an_, af_, bf_, bi_, bl_, bm_, a9_, bk_, hb] <;> (simp at h10; simp [qb_, h10, toR, les, leV, ler])) (by simp only [go_sem, seval, al_, ar_, an_, af_, bf_, bi_, bl_, bm_, a9_, bk_, hb])
 ·refine .skip (.seq (.rgn [] (by simp only [go_sem, seval, al_, ar_, an_, af_, bf_, bi_, bl_, bm_, a9_, bk_, hb]; rfl) ?_ ?_))
  ·(first | trivial | (simp; done) | (simp only [decide_eq_true_eq] at h14; and_intros <;> omega) | (have := hF k; simp [bi_]; omega))
  refine .seq (.seq (.rgn [] (by simp only [go_sem, seval, al_, ar_, an_, af_, bf_, bi_, bl_, bm_, a9_, bk_, hb]; rfl) ?_ ?_))
  ·(first | trivial | (simp; done) | (simp only [decide_eq_true_eq] at h14; and_intros <;> omega) | (have := hF k; simp [bi_]; omega))
  refine .block (.loopK (fun k : Nat => ⟨[.no, .no, .no, .pt 13 2 0 0, .no, .ow 20 2 0 ((l.take k).filter (ea_ L c)).length, .no, .no, .no, .no, .no, .sl false (sgR l), .i .i64 l.length, .i .i64 k, .no, .no, .no, .no, .no, .no, .no, .no, .no, .no, .no, .no, .no, .no, .no], a6_ [(13, ⟨36, 2, [[.i .i64 L, .i .i64 c]]⟩), (20, ⟨36, 2, toR ((l.take k).filter (ea_ L c))⟩)], us [13, 20]⟩) (fun k : Nat => k ≤ l.length ∧ rp_ l = true) (fun k : Nat => l.length - k) (0) ?_ ?_ (fun k hI => ?_))
  ·exact ⟨by simp, by simpa using h10⟩
  ·refine Can.trans (Can.ownSlot 5 20 36 2 (by simp only [go_sem, seval, al_, ar_, an_, af_, bf_, bi_, bl_, bm_, a9_, bk_, hb] <;> rfl) (by simp only [go_sem, seval, al_, ar_, an_, af_, bf_, bi_, bl_, bm_, a9_, bk_, hb]) (by simp only [go_sem, seval, al_, ar_, an_, af_, bf_, bi_, bl_, bm_, a9_, bk_, hb] <;> rfl)) ?_
   exact Can.weak (Weak.lit (by simp only [go_sem, seval, al_, ar_, an_, af_, bf_, bi_, bl_, bm_, a9_, bk_, hb, aw_, leV, at_, au_, V.inn, us, true_or, or_true] <;> (simp)) (by simp only [go_sem, seval, al_, ar_, an_, af_, bf_, bi_, bl_, bm_, a9_, bk_, hb, aw_, leV, at_, au_, V.inn, us, true_or, or_true]) (by simp only [go_sem, seval, al_, ar_, an_, af_, bf_, bi_, bl_, bm_, a9_, bk_, hb, aw_, leV, at_, au_, V.inn, us, true_or, or_true] <;> (simp [toR])))
  refine .seq (.rgn [] (by simp only [go_sem, seval, al_, ar_, an_, af_, bf_, bi_, bl_, bm_, a9_, bk_, hb]; rfl) ?_ ?_)
  ·(first | trivial | (simp; done) | (simp only [decide_eq_true_eq] at h14; and_intros <;> omega) | (have := hF k; simp [bi_]; omega))
  refine .seq (.condB (by simp only [go_sem, seval, al_, ar_, an_, af_, bf_, bi_, bl_, bm_, a9_, bk_, hb]; rfl) (by simp only [go_sem, seval, al_, ar_, an_, af_, bf_, bi_, bl_, bm_, a9_, bk_, hb]) (fun h14 => ?_) (fun h14 => ?_))
  ·refine .skip (.seqJ (fun u : Unit => ⟨[.no, .no, .no, .pt 13 2 0 0, .no, .ow 20 2 0 ((l.take (k + 1)).filter (ea_ L c)).length, .no, .no, .no, .no, .no, .sl false (sgR l), .i .i64 l.length, .i .i64 k, .no, .no, .no, .no, .no, .no, .no, .no, .no, .no, .no, .no, .no, .no, .no], a6_ [(13, ⟨36, 2, [[.i .i64 L, .i .i64 c]]⟩), (20, ⟨36, 2, toR ((l.take (k + 1)).filter (ea_ L c))⟩)], us [13, 20]⟩) (fun u : Unit => True) ?_ (fun u hJ => ?_))
   ·refine .block (.seq (.rgn [] (by simp only [go_sem, seval, al_, ar_, an_, af_, bf_, bi_, bl_, bm_, a9_, bk_, hb, j1_ (show k < l.length by simpa using h14)]; rfl) ?_ ?_))
    ·(first | trivial | (simp; done) | (simp only [decide_eq_true_eq] at h14; and_intros <;> omega) | (have := hF k; simp [bi_]; omega))
    refine .seq (.rgnS [20] [bl_ En .eql 36 2 xx_] (by simp only [go_sem, seval, al_, ar_, an_, af_, bf_, bi_, bl_, bm_, a9_, bk_, hb]; rfl) ?_ ?_)
    ·(first | trivial | (simp; done) | (simp only [decide_eq_true_eq] at h14; and_intros <;> omega) | (have := hF k; simp [bi_]; omega))
    refine .condB (by simp only [go_sem, seval, al_, ar_, an_, af_, bf_, bi_, bl_, bm_, a9_, bk_, hb]; rfl) (by simp only [go_sem, seval, al_, ar_, an_, af_, bf_, bi_, bl_, bm_, a9_, bk_, hb]) (fun h20 => ?_) (fun h20 => ?_)
    ·refine .rgn [] (by simp only [go_sem, seval, al_, ar_, an_, af_, bf_, bi_, bl_, bm_, a9_, bk_, hb]; rfl) ?_ ?_
     ·(first | trivial | (simp; done) | (simp only [decide_eq_true_eq] at h14; and_intros <;> omega) | (have := hF k; simp [bi_]; omega))
     refine Exists.intro (()) ⟨?_, ?_⟩
     ·trivial
     refine Can.trans (Can.swap 35 20 (by decide) (by decide) (by decide) (by decide) (by simp only [go_sem, seval, al_, ar_, an_, af_, bf_, bi_, bl_, bm_, a9_, bk_, hb, V.cl]) (by simp only [go_sem, seval, al_, ar_, an_, af_, bf_, bi_, bl_, bm_, a9_, bk_, hb, V.cl]) (by simp only [go_sem, seval, al_, ar_, an_, af_, bf_, bi_, bl_, bm_, a9_, bk_, hb, be_, sw, swM, rnB] <;> rfl) (by simp only [go_sem, seval, al_, ar_, an_, af_, bf_, bi_, bl_, bm_, a9_, bk_, hb, be_, sw, swM, rnB] <;> rfl) (by simp only [go_sem, seval, al_, ar_, an_, af_, bf_, bi_, bl_, bm_, a9_, bk_, hb, be_, sw, swM, rnB] <;> rfl)) ?_
     exact Can.weak (Weak.lit (by simp only [go_sem, seval, al_, ar_, an_, af_, bf_, bi_, bl_, bm_, a9_, bk_, hb, aw_, leV, at_, au_, V.inn, us, true_or, or_true] <;> (first | (rw [fz_ (by simpa using h14), if_pos (by simpa using h20)]; simp; done) | (rw [fz_ (by simpa using h14), if_neg (by simpa using h20)]; simp; done))) (by simp only [go_sem, seval, al_, ar_, an_, af_, bf_, bi_, bl_, bm_, a9_, bk_, hb, aw_, leV, at_, au_, V.inn, us, true_or, or_true]) (by simp only [go_sem, seval, al_, ar_, an_, af_, bf_, bi_, bl_, bm_, a9_, bk_, hb, aw_, leV, at_, au_, V.inn, us, true_or, or_true] <;> (first | (rw [fz_ (by simpa using h14), if_pos (by simpa using h20)]; simp [toR]; done) | (rw [fz_ (by simpa using h14), if_neg (by simpa using h20)]; simp [toR]; done))))
    ·refine .skip ?_
     refine Exists.intro (()) ⟨?_, ?_⟩
     ·trivial
     exact Can.weak (Weak.lit (by simp only [go_sem, seval, al_, ar_, an_, af_, bf_, bi_, bl_, bm_, a9_, bk_, hb, aw_, leV, at_, au_, V.inn, us, true_or, or_true] <;> (first | (rw [fz_ (by simpa using h14), if_pos (by simpa using h20)]; simp; done) | (rw [fz_ (by simpa using h14), if_neg (by simpa using h20)]; simp; done))) (by simp only [go_sem, seval, al_, ar_, an_, af_, bf_, bi_, bl_, bm_, a9_, bk_, hb, aw_, leV, at_, au_, V.inn, us, true_or, or_true]) (by simp only [go_sem, seval, al_, ar_, an_, af_, bf_, bi_, bl_, bm_, a9_, bk_, hb, aw_, leV, at_, au_, V.inn, us, true_or, or_true] <;> (first | (rw [fz_ (by simpa using h14), if_pos (by simpa using h20)]; simp [toR]; done) | (rw [fz_ (by simpa using h14), if_neg (by simpa using h20)]; simp [toR]; done))))
   refine .rgn [] (by simp only [go_sem, seval, al_, ar_, an_, af_, bf_, bi_, bl_, bm_, a9_, bk_, hb]; rfl) ?_ ?_
   ·(first | trivial | (simp; done) | (simp only [decide_eq_true_eq] at h14; and_intros <;> omega) | (have := hF k; simp [bi_]; omega))
   refine Exists.intro (k + 1) ⟨?_, ?_, ?_⟩
   ·simp at h14; exact ⟨by omega, hI.2⟩
   ·simp at h14; omega
   exact Can.weak (Weak.lit (by simp only [go_sem, seval, al_, ar_, an_, af_, bf_, bi_, bl_, bm_, a9_, bk_, hb, aw_, leV, at_, au_, V.inn, us, true_or, or_true] <;> (rw [a7_ (by simp at h14; omega) (by simp at h14; omega)]; simp)) (by simp only [go_sem, seval, al_, ar_, an_, af_, bf_, bi_, bl_, bm_, a9_, bk_, hb, aw_, leV, at_, au_, V.inn, us, true_or, or_true]) (by simp only [go_sem, seval, al_, ar_, an_, af_, bf_, bi_, bl_, bm_, a9_, bk_, hb, aw_, leV, at_, au_, V.inn, us, true_or, or_true]))
  ·refine .exit (.seq (.rgn [bv_ [20] [] (u7_ (l.filter (ea_ L c)) (by have := hF l.length; rw [List.take_length] at this; omega))] (by simp only [go_sem, seval, al_, ar_, an_, af_, bf_, bi_, bl_, bm_, a9_, bk_, hb]; rfl) ?_ ?_))
   ·simp only [decide_eq_false_iff_not] at h14; (obtain rfl : k = l.length := (by omega)); simp
   refine .frz 20 (by simp only [go_sem, seval, al_, ar_, an_, af_, bf_, bi_, bl_, bm_, a9_, bk_, hb]; rfl) (by simp only [go_sem, seval, al_, ar_, an_, af_, bf_, bi_, bl_, bm_, a9_, bk_, hb]) (by simp only [go_sem, seval, al_, ar_, an_, af_, bf_, bi_, bl_, bm_, a9_, bk_, hb]; rfl) (by simp only [go_sem, seval, al_, ar_, an_, af_, bf_, bi_, bl_, bm_, a9_, bk_, hb]; rfl) ?_
   refine .ret ⟨.inr rfl, ?_⟩
   exact Out.plainL (by simp only [Tryz.results18]; rfl) (by simp only [a1_, bc_, go_sem, seval, al_, ar_, an_, af_, bf_, bi_, bl_, bm_, a9_, bk_, hb] <;> (split <;> rfl)) (by simp only [ba_, go_sem, seval, al_, ar_, an_, af_, bf_, bi_, bl_, bm_, a9_, bk_, hb] <;> (simp [qb_, hI.2, les, leV, peel, bi_, List.take_of_length_le, bo_])) (by simp only [go_sem, seval, al_, ar_, an_, af_, bf_, bi_, bl_, bm_, a9_, bk_, hb])
end
end Go.Proofs.YtefmbmafdgedmaaGreatDoor
