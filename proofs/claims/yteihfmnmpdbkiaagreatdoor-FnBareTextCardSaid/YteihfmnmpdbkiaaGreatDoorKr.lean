/- Parts of the proof, one after another: Plain laws: what lines come to. | What the program's search from behind answers (a range over slices.Backward). | What an expression comes to: the program's and the reference's. | Lines without types, one behind the other: whether they are ok, what they say. | Lines without types, one behind the other: what they say, the reference's. Conditions: none. -/
import Derived.Test.YteihfmnmpdbkiaaGreatDoorKc
import Derived.RangeFuncBox
import Derived.RangeFuncLeaves
import Derived.Shelf.Abstract
import Derived.WalkKit
import Derived.OwnWalkIn
import Derived.TacticsInMore
import Derived.LoopNIn
import Derived.LoopIn
import Derived.Test.YteihfmnmpdbkiaaGreatDoorKe
import Derived.Test.YteihfmnmpdbkiaaGreatDoorKx
import Derived.Test.YteihfmnmpdbkiaaGreatDoorKb
set_option linter.unusedVariables false
set_option linter.unusedSimpArgs false
namespace Go.Proofs.YteihfmnmpdbkiaaGreatDoor
section
def cutI (n : Int) : Int := max (-1000000) (min 1000000 n)
def lastN (l : List Str) : Nat → Str → Int
  | 0, _ => -1
  | k + 1, s => if l.getD k [] = s then (k : Int) else lastN l k s
def lastI (l : List Str) (s : Str) : Int := lastN l l.length s
theorem lastN_le (l : List Str) (s : Str) : ∀ k, -1 ≤ lastN l k s ∧ lastN l k s < k
  | 0 => by simp [lastN]
  | k + 1 => by
    have := lastN_le l s k
    simp only [lastN]; split <;> omega
theorem lastI_le (l : List Str) (s : Str) : -1 ≤ lastI l s ∧ lastI l s < l.length := lastN_le l s l.length
def twI (s : Str) (a b : Int) : Int := if s = [43] then cutI (a + b) else if s = [45] then cutI (a - b) else if s = [42] then cutI (a * b) else if a < b then 1 else 0
def two2 (s : Str) (x y : Int × Bool) : Int × Bool := if x.2 && y.2 then (twI s x.1 y.1, true) else (0, false)
mutual
def rk : E → List Str → List Int → Int × Bool
  | .mk k n s kids, N, M =>
    if k = 1 then (n, true)
    else if k = 2 then (if lastI N s < 0 then (0, false) else (cutI (M.getD (lastI N s).toNat 0), true))
    else if k = 4 then rkA kids N M
    else two2 s (rkA kids N M) (rkB kids N M)
def rkA : List E → List Str → List Int → Int × Bool
  | [], _, _ => (0, false)
  | e :: _, N, M => rk e N M
def rkB : List E → List Str → List Int → Int × Bool
  | [], _, _ => (0, false)
  | _ :: r, N, M => rkA r N M
end
theorem rk_one {e : E} (h : e.kind = 1) (N : List Str) (M : List Int) : rk e N M = (e.n, true) := by
  cases e; simp only [E.kind] at h; subst h; simp [rk, E.n]
theorem rk_name {e : E} (h : e.kind = 2) (N : List Str) (M : List Int) : rk e N M = (if lastI N e.s < 0 then (0, false) else (cutI (M.getD (lastI N e.s).toNat 0), true)) := by
  cases e; simp only [E.kind] at h; subst h; simp [rk, E.s]
theorem rk_as {e : E} (h : e.kind = 4) (hk : e.kids.length = 1) (N : List Str) (M : List Int) : rk e N M = rk (e.kids.getD 0 E0) N M := by
  cases e with
  | mk k n s kids =>
    simp only [E.kind, E.kids] at h hk ⊢
    subst h
    match kids, hk with
    | [x], _ => simp [rk, rkA]
theorem rk_two {e : E} (h : e.kind = 3) (hk : e.kids.length = 2) (N : List Str) (M : List Int) : rk e N M = two2 e.s (rk (e.kids.getD 0 E0) N M) (rk (e.kids.getD 1 E0) N M) := by
  cases e with
  | mk k n s kids =>
    simp only [E.kind, E.kids, E.s] at h hk ⊢
    subst h
    match kids, hk with
    | [x, y], _ => simp [rk, rkA, rkB]
theorem cutI_le (n : Int) : -1000000 ≤ cutI n ∧ cutI n ≤ 1000000 := by unfold cutI; omega
theorem twI_le (s : Str) (a b : Int) : -1000000 ≤ twI s a b ∧ twI s a b ≤ 1000000 := by
  unfold twI
  have := cutI_le
  split
  · exact this _
  · split
    · exact this _
    · split
      · exact this _
      · split <;> omega
theorem rk_le (d : Nat) : ∀ (e : E) (N : List Str) (M : List Int), form e d = true → -1000000 ≤ (rk e N M).1 ∧ (rk e N M).1 ≤ 1000000 := by
  induction d with
  | zero => intro e N M h; have := (form_open h).1; omega
  | succ d ih =>
    intro e N M h
    have e1 : ((d + 1 : Nat) : Int) - 1 = (d : Int) := by omega
    rcases (form_open h).2 with ⟨k1, h1, h2, h3, h4⟩ | ⟨k1, _⟩ | ⟨k1, h1, h2, h3, h4, h5⟩ | ⟨k1, h1, h2, h3, h4⟩
    · rw [rk_one k1]; dsimp only; omega
    · rw [rk_name k1]; split
      · exact ⟨by decide, by decide⟩
      · exact cutI_le _
    · rw [rk_two k1 h3]; unfold two2; split
      · exact twI_le _ _ _
      · exact ⟨by decide, by decide⟩
    · rw [rk_as k1 h3]; exact ih _ _ _ (by rw [e1] at h4; exact h4)
def both (b : Bl) (N : List Str) (M : List Int) : Int × Int × Bool :=
  if (rk b.expr N M).2 = true ∧ b.kind = 3 then ((rk b.expr N M).1, (rk b.thn N M).1, (rk b.thn N M).2) else ((rk b.expr N M).1, (rk b.expr N M).1, (rk b.expr N M).2)
structure Rs where
  names : List Str
  nums : List Int
  said : List Int
  ok : Bool
def stepR (r : Rs) (b : Bl) : Rs :=
  if r.ok = false then r
  else if b.kind = 0 then r
  else if (both b r.names r.nums).2.2 = false then { r with ok := false }
  else if b.kind = 1 then { r with names := r.names ++ [b.name], nums := r.nums ++ [(both b r.names r.nums).1] }
  else if b.kind = 2 ∨ (both b r.names r.nums).1 ≠ 0 then { r with said := r.said ++ [(both b r.names r.nums).2.1] }
  else r
def runs (l : List Bl) : Rs := l.foldl stepR ⟨[], [], [], true⟩
def lok (l : List Bl) : Bool := decide (1 ≤ l.length) && decide (l.length ≤ 16) && l.all bok
def brun (l : List Bl) : List Int × Bool := if lok l then ((runs l).said, (runs l).ok) else ([], false)
theorem step_bad {r : Rs} (h : r.ok = false) (b : Bl) : stepR r b = r := by simp [stepR, h]
theorem fold_bad : ∀ (l : List Bl) (r : Rs), r.ok = false → l.foldl stepR r = r
  | [], _, _ => rfl
  | b :: l, r, h => by rw [List.foldl_cons, step_bad h]; exact fold_bad l r h
theorem step_len {r : Rs} (b : Bl) (h : r.names.length = r.nums.length) : (stepR r b).names.length = (stepR r b).nums.length ∧ (stepR r b).names.length ≤ r.names.length + 1 ∧ (stepR r b).said.length ≤ r.said.length + 1 := by
  unfold stepR
  split
  · exact ⟨h, by omega, by omega⟩
  split
  · exact ⟨h, by omega, by omega⟩
  split
  · exact ⟨h, by dsimp only; omega, by dsimp only; omega⟩
  split
  · simp [h]
  split
  · simp [h]
  · exact ⟨h, by omega, by omega⟩
theorem runs_take {l : List Bl} {k : Nat} (h : k < l.length) : runs (l.take (k + 1)) = stepR (runs (l.take k)) (l.getD k B0) := by
  unfold runs
  rw [List.take_add_one, List.getElem?_eq_getElem h, List.foldl_append, List.getD_eq_getElem?_getD, List.getElem?_eq_getElem h]; rfl
theorem runs_len (l : List Bl) : ∀ k, k ≤ l.length → (runs (l.take k)).names.length = (runs (l.take k)).nums.length ∧ (runs (l.take k)).names.length ≤ k ∧ (runs (l.take k)).said.length ≤ k
  | 0, _ => by simp [runs]
  | k + 1, h => by
    have := runs_len l k (by omega)
    have h2 := step_len (l.getD k B0) this.1
    rw [runs_take (by omega)]
    omega
theorem runs_stop {l : List Bl} {k : Nat} (hk : k ≤ l.length) (h : (runs (l.take k)).ok = false) : runs l = runs (l.take k) := by
  conv => lhs; rw [← List.take_append_drop k l]
  unfold runs at h ⊢
  rw [List.foldl_append]
  exact fold_bad _ _ h
end

section
open Go.RowKit Go.Shelf
attribute [local go_sem] Oper.semAt_some

def comeD {α : Type} (f : Nat → α) (n m : Nat) : List α := (((List.range n).drop m).reverse).map f
theorem comeD_end {α : Type} (f : Nat → α) (n : Nat) : comeD f n n = [] := by simp [comeD]
theorem comeD_step {α : Type} (f : Nat → α) {n j : Nat} (h : j < n) : comeD f n j = comeD f n (j + 1) ++ [f j] := by
  unfold comeD
  rw [List.drop_eq_getElem_cons (by simpa using h)]
  simp
theorem comeD_len {α : Type} (f : Nat → α) (n m : Nat) : (comeD f n m).length = n - m := by simp [comeD]
theorem comeD_mem {α : Type} (f : Nat → α) {n m j : Nat} (h1 : m ≤ j) (h2 : j < n) : f j ∈ comeD f n m := by
  simp only [comeD, List.mem_map, List.mem_reverse]
  refine ⟨j, List.mem_iff_getElem?.2 ⟨j - m, ?_⟩, rfl⟩
  rw [List.getElem?_drop, List.getElem?_range (by omega)]; congr 1; omega
abbrev strV (s : Str) : Value := .string ⟨s.toArray⟩
abbrev bkE (x : Int × Str) : Array Value := #[.int .i64 x.1, strV x.2]
abbrev bkF (l : List Str) (j : Nat) : Int × Str := ((j : Int), l.getD j [])

set_option maxRecDepth 100000 in
set_option maxHeartbeats 4000000 in
theorem back1_in (F : Fence) (n : Nat) (h7 : F.fn 222) (hro : F.round = none) (hn : 1 ≤ n) (l Bs n₀ b off cap : Nat) (zs : List Str) (hreach : zs.length * 16 ≤ 140737488351232) (hb : b < n₀) (J Jx : List (Int × Str) → World → Prop)
    (hY : ∀ pre x W, J pre W → pre.length < zs.length → YieldAt F (n - 1) Tryz.prog l (bkE x) W fun e W' =>
      (e = .returned (.bool true) ∧ J (pre ++ [x]) W' ∧ Below n₀ W W') ∨ (e = .returned (.bool false) ∧ Jx (pre ++ [x]) W'))
    (W : World) (hBn : Bs < n₀) (hBs : W.cell? ⟨Bs, 0, none⟩ = some (.slice (some ⟨b, off, none⟩) zs.length cap)) (hc : ∀ j, j < zs.length → W.cell? ⟨b, off + j, none⟩ = some (strV (zs.getD j []))) (h0 : J [] W) :
    CallsIn F n Tryz.prog 222 #[.func (.yield l) #[] #[], .pointer (some ⟨Bs, 0, none⟩)] W fun e W' => (∃ v, e = .returned v) ∧
      ((∃ ys, ys = comeD (bkF zs) zs.length 0 ∧ J ys W') ∨ (∃ pre, (∃ k, k ≤ zs.length ∧ pre = comeD (bkF zs) zs.length k) ∧ Jx pre W')) := by
  refine callsIn_of_wp Tryz.func222 rfl h7 ?_ hro
  simp only [Tryz.ntmps222, List.size_toArray, List.length_cons, List.length_nil, Nat.reduceAdd, Nat.reduceSub, Array.replicate_succ, Array.replicate_zero, List.push_toArray, List.append_toArray, List.nil_append, List.cons_append]
  gi_wp2
  gi_loopw [3] (fun i wr => ∃ m : Nat, m ≤ zs.length ∧ i = .int .i64 ((m : Int) - 1) ∧ J (comeD (bkF zs) zs.length m) wr ∧ Below n₀ W wr)
    (fun i _ => (intOf i + 1).toNat)
  case atStart => exact ⟨zs.length, Nat.le_refl _, by first | rfl | simp [wrap64 (show -9223372036854775808 ≤ (zs.length : Int) - 1 by omega) (by omega)], by rw [comeD_end]; exact h0, Below.refl _ _⟩
  case round =>
    obtain ⟨m, hk, rfl, hJs, hnx⟩ := hrel
    have hBx : wr.cell? ⟨Bs, 0, none⟩ = some (.slice (some ⟨b, off, none⟩) zs.length cap) := (hnx.cell (p := ⟨Bs, 0, none⟩) hBn).trans hBs
    cases m with
    | zero =>
      gi_wp2
      go_end0
      exact ⟨⟨_, rfl⟩, .inl ⟨_, rfl, hJs⟩⟩
    | succ j =>
      have hi : (((j + 1 : Nat) : Int) - 1) = (j : Int) := by omega
      rw [hi]
      have hcx : wr.cell? ⟨b, off + j, none⟩ = some (strV (zs.getD j [])) := (hnx.cell (p := ⟨b, off + j, none⟩) hb).trans (hc j (by omega))
      have hjl : j < zs.length := by omega
      have hst := comeD_step (bkF zs) hjl
      simp only [bkF] at hst
      generalize zs.getD j [] = v at hcx hst
      obtain ⟨fn, tmps, assign, body, hy, hR⟩ := hY _ ((j : Int), v) wr hJs (by rw [comeD_len]; omega)
      dsimp only [bkE] at hy
      gi_wp2
      refine hR.mono ?_
      rintro e W3 (⟨rfl, hJ3, hk3⟩ | ⟨rfl, hJx3⟩)
      · gi_wp2
        go_roundw
        case rel => exact ⟨j, by omega, by simp, by rw [hst]; exact hJ3, hnx.trans hk3⟩
        case measure => simp [intOf] <;> omega
      · gi_wp2
        refine bodyPost_ret (results_none rfl _ _ _) rfl ?_
        exact ⟨⟨_, rfl⟩, .inr ⟨_, ⟨j, by omega, hst.symm⟩, hJx3⟩⟩
theorem back_in (F : Fence) (n : Nat) (h5 : F.fn 197) (hro : F.round = none) (a : Option Addr) (len cap : Nat) (w : World) :
    CallsIn F n Tryz.prog 197 #[.slice a len cap] w fun e w' => e = .returned (.func (.func 222) #[] #[.pointer (some ⟨w.heap.size, 0, none⟩)]) ∧ w' = w.alloc (.cells #[.slice a len cap] 37) := by
  refine callsIn_of_wp Tryz.func197 rfl h5 ?_ hro
  simp only [Tryz.ntmps197, List.size_toArray, List.length_cons, List.length_nil, Nat.reduceAdd, Nat.reduceSub, Array.replicate_succ, Array.replicate_zero, List.push_toArray, List.append_toArray, List.nil_append, List.cons_append]
  gi_wp2
  go_ret
  exact ⟨rfl, rfl⟩
set_option maxRecDepth 100000 in
set_option maxHeartbeats 1000000 in
theorem back1_nil_in (F : Fence) (n : Nat) (h7 : F.fn 222) (hro : F.round = none) (l Bs : Nat) (a : Option Addr) (cap : Nat) (J : List (Int × Str) → World → Prop) (W : World) (hBs : W.cell? ⟨Bs, 0, none⟩ = some (.slice a 0 cap)) (h0 : J [] W) :
    CallsIn F n Tryz.prog 222 #[.func (.yield l) #[] #[], .pointer (some ⟨Bs, 0, none⟩)] W fun e W' => (∃ v, e = .returned v) ∧ J [] W' := by
  refine callsIn_of_wp Tryz.func222 rfl h7 ?_ hro
  simp only [Tryz.ntmps222, List.size_toArray, List.length_cons, List.length_nil, Nat.reduceAdd, Nat.reduceSub, Array.replicate_succ, Array.replicate_zero, List.push_toArray, List.append_toArray, List.nil_append, List.cons_append]
  gi_wp2
  gi_loopw [3] (fun i wr => i = .int .i64 (-1) ∧ J [] wr) (fun _ _ => 0)
  case atStart => exact ⟨rfl, h0⟩
  case round =>
    obtain ⟨rfl, hJs⟩ := hrel
    gi_wp2
    go_end0
    exact ⟨⟨_, rfl⟩, hJs⟩
def StrsAt (n₀ : Nat) (W : World) (sv : Value) (zs : List Str) : Prop :=
  ∃ A cap, sv = .slice A zs.length cap ∧ (zs ≠ [] → ∃ b off, A = some ⟨b, off, none⟩ ∧ b < n₀ ∧ ∀ j, j < zs.length → W.cell? ⟨b, off + j, none⟩ = some (strV (zs.getD j [])))
theorem StrsAt.below {n₀ : Nat} {A B : World} (h : Below n₀ A B) {sv : Value} {zs : List Str} : StrsAt n₀ A sv zs → StrsAt n₀ B sv zs
  | ⟨a, cap, e, k⟩ => ⟨a, cap, e, fun hne => let ⟨b, off, e2, hb, hc⟩ := k hne; ⟨b, off, e2, hb, fun j hj => (h.cell (p := ⟨b, off + j, none⟩) hb).trans (hc j hj)⟩⟩
theorem back_stops (F : Fence) (n : Nat) (h7 : F.fn 222) (hro : F.round = none) (hn : 1 ≤ n) (Bs n₀ : Nat) (sv : Value) (zs : List Str) (hreach : zs.length * 16 ≤ 140737488351232) (w : World) (hBs : Bs < w.heap.size) (hn₀ : n₀ ≤ w.heap.size) (hBn : Bs < n₀)
    (hc : w.cell? ⟨Bs, 0, none⟩ = some sv) (hI : StrsAt n₀ w sv zs) :
    SeqStopsK F n Tryz.prog 222 #[.pointer (some ⟨Bs, 0, none⟩)] bkE (Below n₀) (fun ys => ys = comeD (bkF zs) zs.length 0) (fun pre => ∃ k, k ≤ zs.length ∧ pre = comeD (bkF zs) zs.length k) zs.length w := fun l J Jx W hW _ _ hY h0 => by
  have hc' := (hW.cell (p := ⟨Bs, 0, none⟩) hBs).trans hc
  obtain ⟨A, cap, rfl, hne⟩ := hI.below (hW.mono hn₀)
  by_cases hz : zs = []
  · subst hz
    exact (back1_nil_in F n h7 hro l Bs A cap J W hc' h0).mono fun e W' ⟨he, hj⟩ => ⟨he, .inl ⟨_, rfl, hj⟩⟩
  · obtain ⟨b, off, rfl, hb, hcs⟩ := hne hz
    exact back1_in F n h7 hro hn l Bs n₀ b off cap zs hreach hb J Jx hY W hBn hc' hcs h0
theorem lastN_hit {l : List Str} {s : Str} {m : Nat} (hm : l.getD m [] = s) : ∀ n, m < n → (∀ j, m < j → j < n → l.getD j [] ≠ s) → lastN l n s = m
  | 0, h, _ => by omega
  | n + 1, h, hh => by
    simp only [lastN]
    by_cases e : m = n
    · subst e; rw [if_pos hm]
    · rw [if_neg (hh n (by omega) (by omega))]
      exact lastN_hit hm n (by omega) fun j h1 h2 => hh j h1 (by omega)
theorem lastN_none {l : List Str} {s : Str} : ∀ n, (∀ j, j < n → l.getD j [] ≠ s) → lastN l n s = -1
  | 0, _ => rfl
  | n + 1, h => by
    simp only [lastN]
    rw [if_neg (h n (by omega))]
    exact lastN_none n fun j hj => h j (by omega)
set_option maxRecDepth 100000 in
set_option maxHeartbeats 4000000 in
theorem last_in (F : Fence) (n : Nat) (h4 : F.fn 156) (h6 : F.fn 197) (h8 : F.fn 222) (hro : F.round = none) (hn : 3 ≤ n) (a : Option Addr) (cap : Nat) (zs : List Str) (s : Str) (hreach : zs.length * 16 ≤ 140737488351232) (w : World) (hI : StrsAt w.heap.size w (.slice a zs.length cap) zs) :
    CallsIn F n Tryz.prog 156 #[.slice a zs.length cap, strV s] w fun e W' => e = .returned (.int .i64 (lastI zs s)) ∧ Below w.heap.size w W' := by
  have h1 : 1 ≤ n := by omega
  refine callsIn_of_wp_marks Tryz.func156 rfl h4 ?_ hro
  simp only [Tryz.ntmps156, List.size_toArray, List.length_cons, List.length_nil, Nat.reduceAdd, Nat.reduceSub, Array.replicate_succ, Array.replicate_zero, List.push_toArray, List.append_toArray, List.nil_append, List.cons_append]
  gi_wp2_with (gi_at_call 197; refine (back_in F (n - 1) h6 hro _ _ _ _).mono ?_; rintro e w' ⟨rfl, rfl⟩)
  have bS := Boxed.new w 9 (strV s)
  have bR := Boxed.new (w.alloc (.cells #[strV s] 9)) 3 (.int .i64 0)
  rw [World.size_alloc] at bR
  have bN := Boxed.new ((w.alloc (.cells #[strV s] 9)).alloc (.cells #[.int .i64 0] 3)) 37 (.slice a zs.length cap)
  rw [World.size_alloc, World.size_alloc] at bN
  have hB0 : Below w.heap.size w (((w.alloc (.cells #[strV s] 9)).alloc (.cells #[.int .i64 0] 3)).alloc (.cells #[.slice a zs.length cap] 37)) := (((Below.refl _ w).alloc (Nat.le_refl _) _).alloc (by simp) _).alloc (by simp only [World.size_alloc]; omega) _
  have hI3 : StrsAt (w.heap.size + 1 + 1 + 1) (((w.alloc (.cells #[strV s] 9)).alloc (.cells #[.int .i64 0] 3)).alloc (.cells #[.slice a zs.length cap] 37)) (.slice a zs.length cap) zs := by
    obtain ⟨A, c, e, k⟩ := hI.below hB0
    exact ⟨A, c, e, fun hne => let ⟨b, off, e2, hb, hc⟩ := k hne; ⟨b, off, e2, by omega, hc⟩⟩
  refine wpIn_rangeFunc_ownG hro h1 (gf := 222) (lb := #[.pointer (some ⟨w.heap.size + 1 + 1, 0, none⟩)]) rfl h8 (enters_of Tryz.func222 (by kernel_rfl) rfl)
    (back_stops F (n - 1) h8 hro (by omega) (w.heap.size + 1 + 1) (w.heap.size + 1 + 1 + 1) _ zs hreach _ (by simp) (by simp) (by omega) bN.cell hI3) belowK_t (belowK_b (by simp)) (Below.refl _ _) (fun _ => rfl)
    (fun pre W => ((∀ p ∈ pre, p.2 ≠ s) ∧ (W.cell? ⟨w.heap.size, 0, none⟩ = some (strV s) ∧ W.frozen? ⟨w.heap.size, 0, none⟩ = false) ∧ W.cell? ⟨w.heap.size + 1, 0, none⟩ = some (.int .i64 0) ∧ W.frozen? ⟨w.heap.size + 1, 0, none⟩ = false) ∧ Below w.heap.size w W)
    (fun c pre W => (c = .ret ∧ ∃ ini last, pre = ini ++ [last] ∧ (∀ p ∈ ini, p.2 ≠ s) ∧ last.2 = s ∧ W.cell? ⟨w.heap.size + 1, 0, none⟩ = some (.int .i64 last.1)) ∧ Below w.heap.size w W)
    (OwnFrom.and (Own.from (fun s A B row hs hg hr => ⟨hs.1, ⟨cell_kept hs.2.1.1 hg hr, (frozen_kept hs.2.1.1 hg hr).trans hs.2.1.2⟩, cell_kept hs.2.2.1 hg hr, (frozen_kept hs.2.2.1 hg hr).trans hs.2.2.2⟩) _) (ownFrom_below (Nat.le_refl _) (by simp; omega)))
    (fun c => OwnFrom.and (Own.from (fun s A B row hs hg hr => by obtain ⟨hc, ini, last, e1, e2, e3, e4⟩ := hs; exact ⟨hc, ini, last, e1, e2, e3, cell_kept e4 hg hr⟩) _) (ownFrom_below (Nat.le_refl _) (by simp; omega)))
    ⟨⟨by simp, ⟨((bS.alloc _).alloc _).cell, ((bS.alloc _).alloc _).frozen⟩, (bR.alloc _).cell, (bR.alloc _).frozen⟩, hB0⟩
    (fun x => { tmps := #[.slice a zs.length cap, strV s, undef, .pointer (some ⟨w.heap.size, 0, none⟩), .pointer (some ⟨w.heap.size + 1, 0, none⟩), .int .i64 x.1, strV x.2, .slice a zs.length cap, .func (.func 222) #[] #[.pointer (some ⟨w.heap.size + 1 + 1, 0, none⟩)], .int .i64 x.1, strV x.2, undef, undef, undef, undef], defers := [] }) ?assign ?body ?done ?stop
  case assign =>
    intro l x W K hK
    gi_wp2
    exact hK
  case body =>
    rintro l pre ⟨x1, x2⟩ W ⟨⟨hp, ⟨hcs, hfs⟩, hcr, hfr⟩, hB⟩ _
    gi_wp2
    · have hx : (x2 == s) = true := by assumption
      exact ⟨(KeepsOthers.setCell _ _ _).from _, ⟨rfl, pre, (x1, x2), rfl, hp, by simpa using hx, World.cell?_setCell_same' _ _ _ (by rw [hcr]; rfl)⟩, hB.setCell (p := ⟨w.heap.size + 1, 0, none⟩) (by simp) _⟩
    · have hx : (x2 == s) = false := by assumption
      exact ⟨KeepsFrom.refl _ _, Below.refl _ _, ⟨fun p hp' => (List.mem_append.1 hp').elim (hp p) (fun e => by simp at e; subst e; simpa using hx), ⟨hcs, hfs⟩, hcr, hfr⟩, hB⟩
  case done =>
    rintro D ys W hD rfl ⟨⟨hne, _, hcr, hfr⟩, hB⟩ hK
    gi_wp2
    have hK' := (KeepsOthers.setCell W ⟨w.heap.size + 1, 0, none⟩ (.int .i64 (-1))).same D _ hK rfl
    refine ⟨by simp, .inl ⟨_, _, rfl, run_takeDeferred hK', ?_⟩⟩
    have hc5 := cell_kept (World.cell?_setCell_same' W ⟨w.heap.size + 1, 0, none⟩ (.int .i64 (-1)) (by rw [hcr]; rfl)) (grownBy_putObj' _ D (.deferred none)) (fun r e => by cases e; exact ⟨_, hK', rfl⟩)
    refine ⟨.int .i64 (-1), ?_, ?_, (hB.setCell (p := ⟨w.heap.size + 1, 0, none⟩) (by simp) _).trans (belowK_b (w := w) (Nat.le_refl _) _ D _ _ (by simp at hD; omega) hK' rfl rfl)⟩
    · simp [results, Tryz.f156, go_sem, hc5]
    · rw [show lastI zs s = -1 from lastN_none _ fun j hj => hne (bkF zs j) (comeD_mem _ (Nat.zero_le _) hj)]
  case stop =>
    rintro D c pre W hD ⟨m, hk, rfl⟩ ⟨⟨rfl, ini, last, e1, e2, e3, hcr⟩, hB⟩ hK
    gi_wp2
    refine ⟨by simp, .inl ⟨_, _, rfl, run_takeDeferred hK, ?_⟩⟩
    have hc5 := cell_kept hcr (grownBy_putObj' _ D (.deferred none)) (fun r e => by cases e; exact ⟨_, hK, rfl⟩)
    have hml : m < zs.length := by
      rcases Nat.lt_or_ge m zs.length with h | h
      · exact h
      · obtain rfl : m = zs.length := by omega
        rw [comeD_end] at e1; simp at e1
    rw [comeD_step _ hml] at e1
    obtain ⟨rfl, e5⟩ := List.append_inj' e1 rfl
    obtain rfl : bkF zs m = last := by simpa using e5
    refine ⟨.int .i64 (m : Int), ?_, ?_, hB.trans (belowK_b (w := w) (Nat.le_refl _) W D _ _ (by simp at hD; omega) hK rfl rfl)⟩
    · simp [results, Tryz.f156, go_sem, hc5]
    · rw [show lastI zs s = m from lastN_hit e3 _ hml fun j h1 h2 => e2 (bkF zs j) (comeD_mem _ h1 h2)]
theorem vals_len {φ : Phi} {S : Nat → Prop} {w : World} {z : Nat} : ∀ {l : List Str} {xs : List Value}, VRr φ S w z (strR l) xs → xs = l.map strV
  | [], xs, h => by simpa [strR, VRr] using h
  | s :: l, xs, h => by
    simp only [strR, List.map_cons, VRr] at h
    obtain ⟨ys, zs, rfl, _, h2, _, h3⟩ := h
    simp only [VRs, VR] at h2
    obtain ⟨x, r, rfl, rfl, rfl⟩ := h2
    rw [vals_len h3]; rfl
theorem last_a (l : List Str) (s : Str) (hl : l.length ≤ 1000000000000) : ACall En 156 [.sl false (strR l), .s s] [] [.i .i64 (lastI l s)] [] := by
  refine acall_ext (fn := Tryz.f156) Tryz.func156 rfl rfl fun S w xs hx _ _ => ?_
  simp only [VRs, VR] at hx
  obtain ⟨x, r, e1, ⟨A, c, z, ys, rfl, h2, h3, h4, h5, h6⟩, y, q, rfl, rfl, rfl⟩ := hx
  obtain rfl : xs = #[.slice A (strR l).length c, .string ⟨s.toArray⟩] := by apply Array.ext'; simpa using e1
  rw [strR_len] at *
  have hv := vals_len h6
  have hI : StrsAt w.heap.size w (.slice A l.length c) l := by
    refine ⟨A, c, rfl, fun hne => ?_⟩
    obtain ⟨g, o, rfl, _, hg, hcell⟩ := h5 (by rw [hv]; simpa using hne)
    refine ⟨g, o, rfl, hg, fun j hj => hcell j _ ?_⟩
    rw [hv, List.getElem?_map, List.getElem?_eq_getElem hj, List.getD_eq_getElem?_getD, List.getElem?_eq_getElem hj]; rfl
  refine (callsIn_wide (n := 3)).1 ((last_in _ 3 trivial trivial trivial rfl (by omega) A c l s (by omega) w hI).mono ?_)
  rintro e w' ⟨rfl, h⟩
  exact ⟨[_], rfl, h, .cons (by simp only [VR]) .nil⟩
end

section
set_option maxRecDepth 100000
set_option maxHeartbeats 4000000

theorem cut_a (n : Int) : ACall En 157 [.i .i64 n] [] [.i .i64 (cutI n)] [] := by
  refine acall_of_body (fn := Tryz.f157) [] Tryz.func157 rfl rfl (by simp) fun C => ?_
  rw [entry_eq]
  simp only [Tryz.ntmps157, List.length_cons, List.length_nil, Nat.reduceAdd, Nat.reduceSub, List.replicate_succ, List.replicate_zero, List.cons_append, List.nil_append, numL]
  refine AWp.seq ?_
  refine AWp.rgn [] (by simp only [go_sem, seval]; rfl) ?_ ?_
  · first | trivial | simp
  refine AWp.seq ?_
  refine AWp.rgn [] (by simp only [go_sem, seval]; rfl) ?_ ?_
  · first | trivial | simp
  refine AWp.ret (And.intro (.inr rfl) ?_)
  exact Out.plain (by simp only [Tryz.results157]; rfl) (by simp only [resCs, resC, go_sem, seval] <;> (split <;> rfl)) (by simp only [resV, go_sem, seval] <;> (simp only [List.cons.injEq, V.i.injEq, and_true, true_and]; unfold cutI; by_cases h : n < 1000000 <;> simp only [h, if_true, if_false] <;> split <;> omega)) (by simp only [go_sem, seval])
theorem l1Min_a (x y : Int) : ACall En 223 [.i .i64 x, .i .i64 y] [] [.i .i64 (min x y)] [] := by
  refine acall_of_body (fn := Tryz.f223) [] Tryz.func223 rfl rfl (by simp) fun C => ?_
  rw [entry_eq]
  simp only [Tryz.ntmps223, List.length_cons, List.length_nil, Nat.reduceAdd, Nat.reduceSub, List.replicate_succ, List.replicate_zero, List.cons_append, List.nil_append, numL]
  refine AWp.seq ?_
  refine AWp.rgn [] (by simp only [go_sem, seval]; rfl) ?_ ?_
  · first | trivial | simp
  refine AWp.seq ?_
  refine AWp.seq ?_
  refine AWp.rgn [] (by simp only [go_sem, seval]; rfl) ?_ ?_
  · first | trivial | simp
  refine AWp.condB (by simp only [go_sem, seval]; rfl) (by simp only [go_sem, seval]) (fun h7 => ?_) (fun h7 => ?_)
  · refine AWp.seq ?_
    refine AWp.rgn [] (by simp only [go_sem, seval]; rfl) ?_ ?_
    · first | trivial | simp
    refine AWp.ret (And.intro (.inr rfl) ?_)
    exact Out.plain (by simp only [Tryz.results223]; rfl) (by simp only [resCs, resC, go_sem, seval] <;> (split <;> rfl)) (by simp only [resV, go_sem, seval] <;> (congr 1; simp at *; omega)) (by simp only [go_sem, seval])
  · refine AWp.skip ?_
    refine AWp.seq ?_
    refine AWp.rgn [] (by simp only [go_sem, seval]; rfl) ?_ ?_
    · first | trivial | simp
    refine AWp.ret (And.intro (.inr rfl) ?_)
    exact Out.plain (by simp only [Tryz.results223]; rfl) (by simp only [resCs, resC, go_sem, seval] <;> (split <;> rfl)) (by simp only [resV, go_sem, seval] <;> (congr 1; simp at *; omega)) (by simp only [go_sem, seval])
theorem l1Max2_a (x y : Int) : ACall En 214 [.i .i64 x, .i .i64 y] [] [.i .i64 (max x y)] [] := by
  refine acall_of_body (fn := Tryz.f214) [] Tryz.func214 rfl rfl (by simp) fun C => ?_
  rw [entry_eq]
  simp only [Tryz.ntmps214, List.length_cons, List.length_nil, Nat.reduceAdd, Nat.reduceSub, List.replicate_succ, List.replicate_zero, List.cons_append, List.nil_append, numL]
  refine AWp.seq ?_
  refine AWp.rgn [] (by simp only [go_sem, seval]; rfl) ?_ ?_
  · first | trivial | simp
  refine AWp.seq ?_
  refine AWp.seq ?_
  refine AWp.rgn [] (by simp only [go_sem, seval]; rfl) ?_ ?_
  · first | trivial | simp
  refine AWp.condB (by simp only [go_sem, seval]; rfl) (by simp only [go_sem, seval]) (fun h7 => ?_) (fun h7 => ?_)
  · refine AWp.seq ?_
    refine AWp.rgn [] (by simp only [go_sem, seval]; rfl) ?_ ?_
    · first | trivial | simp
    refine AWp.ret (And.intro (.inr rfl) ?_)
    exact Out.plain (by simp only [Tryz.results214]; rfl) (by simp only [resCs, resC, go_sem, seval] <;> (split <;> rfl)) (by simp only [resV, go_sem, seval] <;> (congr 1; simp at *; omega)) (by simp only [go_sem, seval])
  · refine AWp.skip ?_
    refine AWp.seq ?_
    refine AWp.rgn [] (by simp only [go_sem, seval]; rfl) ?_ ?_
    · first | trivial | simp
    refine AWp.ret (And.intro (.inr rfl) ?_)
    exact Out.plain (by simp only [Tryz.results214]; rfl) (by simp only [resCs, resC, go_sem, seval] <;> (split <;> rfl)) (by simp only [resV, go_sem, seval] <;> (congr 1; simp at *; omega)) (by simp only [go_sem, seval])
theorem sCut_a (n : Int) : ACall En 199 [.i .i64 n] [] [.i .i64 (cutI n)] [] := by
  refine acall_of_body (fn := Tryz.f199) [] Tryz.func199 rfl rfl (by simp) fun C => ?_
  rw [entry_eq]
  simp only [Tryz.ntmps199, List.length_cons, List.length_nil, Nat.reduceAdd, Nat.reduceSub, List.replicate_succ, List.replicate_zero, List.cons_append, List.nil_append, numL]
  refine AWp.seq ?_
  refine AWp.rgn [] (by simp only [go_sem, seval]; rfl) ?_ ?_
  · first | trivial | simp
  refine AWp.seq ?_
  refine AWp.rgn [call0 (l1Min_a 1000000 n), call0 (l1Max2_a (-1000000) (min 1000000 n))] (by simp only [go_sem, seval]; rfl) ?_ ?_
  · first | trivial | simp
  refine AWp.ret (And.intro (.inr rfl) ?_)
  exact Out.plain (by simp only [Tryz.results199]; rfl) (by simp only [resCs, resC, go_sem, seval] <;> (split <;> rfl)) (by simp only [resV, go_sem, seval] <;> (rfl)) (by simp only [go_sem, seval])
theorem sFind_a (N : List Str) (s : Str) (hl : N.length ≤ 1000000) : ACall En 198 [.sl false (strR N), .s s] [] [.i .i64 (lastI N s)] [] := by
  refine acall_of_body (fn := Tryz.f198) [] Tryz.func198 rfl rfl (by simp) fun C => ?_
  rw [entry_eq]
  simp only [Tryz.ntmps198, List.length_cons, List.length_nil, Nat.reduceAdd, Nat.reduceSub, List.replicate_succ, List.replicate_zero, List.cons_append, List.nil_append, numL]
  refine AWp.seq ?_
  refine AWp.rgn [] (by simp only [go_sem, seval, strR_len, strR_pure]; rfl) ?_ ?_
  · (first | trivial | (simp; done))
  refine AWp.seq ?_
  refine AWp.seq ?_
  refine AWp.rgn [] (by simp only [go_sem, seval, strR_len, strR_pure]; rfl) ?_ ?_
  · (first | trivial | (simp; done))
  refine AWp.block ?_
  refine AWp.loopK (fun k : Nat => ⟨[.sl false (strR N), .s s, .no, .no, .no, .i .i64 ((k : Int) - 1), .no, .no, .no, .no, .no, .no, .no, .no, .no, .no, .no, .no, .no, .no], memOf [], us []⟩) (fun k : Nat => k ≤ N.length ∧ lastI N s = lastN N k s) (fun k : Nat => k) (N.length) ?_ ?_ (fun k hI => ?_)
  · exact ⟨Nat.le_refl _, rfl⟩
  · exact Can.weak (Weak.lit (by simp only [go_sem, seval, strR_len, strR_pure, subM, leV, inns, innr, V.inn, us, true_or, or_true] <;> (rw [wrap64 (by omega) (by omega)])) (by simp only [go_sem, seval, strR_len, strR_pure, subM, leV, inns, innr, V.inn, us, true_or, or_true]) (by simp only [go_sem, seval, strR_len, strR_pure, subM, leV, inns, innr, V.inn, us, true_or, or_true]))
  refine AWp.seq ?_
  refine AWp.seq ?_
  refine AWp.rgn [] (by simp only [go_sem, seval, strR_len, strR_pure]; rfl) ?_ ?_
  · (first | trivial | (simp; done))
  refine AWp.condB (by simp only [go_sem, seval, strR_len, strR_pure]; rfl) (by simp only [go_sem, seval, strR_len, strR_pure]) (fun h10 => ?_) (fun h10 => ?_)
  · refine AWp.skip ?_
    refine AWp.seq ?_
    refine AWp.block ?_
    refine AWp.seq ?_
    refine AWp.rgn [] (by simp only [go_sem, seval, strR_len, strR_pure, strR_get (show k - 1 < N.length by simp at h10; omega), show ((k : Int) - 1).toNat = k - 1 by omega]; rfl) ?_ ?_
    · simp at h10; simp; omega
    refine AWp.condB (by simp only [go_sem, seval, strR_len, strR_pure]; rfl) (by simp only [go_sem, seval, strR_len, strR_pure]) (fun h18 => ?_) (fun h18 => ?_)
    · refine AWp.seq ?_
      refine AWp.rgn [] (by simp only [go_sem, seval, strR_len, strR_pure]; rfl) ?_ ?_
      · (first | trivial | (simp; done))
      refine AWp.ret (And.intro (.inr rfl) ?_)
      exact Out.plain (by simp only [Tryz.results198]; rfl) (by simp only [resCs, resC, go_sem, seval, strR_len, strR_pure] <;> (split <;> rfl)) (by simp only [resV, go_sem, seval, strR_len, strR_pure] <;> (simp at h10; (obtain ⟨j, rfl⟩ : ∃ j, k = j + 1 := ⟨k - 1, by omega⟩); rw [hI.2]; simp only [lastN]; rw [if_pos (by simpa using h18)]; simp only [List.cons.injEq, V.i.injEq, and_true, true_and]; omega)) (by simp only [go_sem, seval, strR_len, strR_pure])
    · refine AWp.skip ?_
      refine AWp.rgn [] (by simp only [go_sem, seval, strR_len, strR_pure]; rfl) ?_ ?_
      · (first | trivial | (simp; done))
      refine Exists.intro (k - 1) ⟨?_, ?_, ?_⟩
      · simp at h10; refine ⟨by omega, ?_⟩; rw [hI.2]; (obtain ⟨j, rfl⟩ : ∃ j, k = j + 1 := ⟨k - 1, by omega⟩); simp only [lastN]; rw [if_neg (by simpa using h18)]; rfl
      · simp at h10; omega
      exact Can.weak (Weak.lit (by simp only [go_sem, seval, strR_len, strR_pure, subM, leV, inns, innr, V.inn, us, true_or, or_true] <;> (simp at h10; rw [wrap64 (by omega) (by omega)]; simp; omega)) (by simp only [go_sem, seval, strR_len, strR_pure, subM, leV, inns, innr, V.inn, us, true_or, or_true]) (by simp only [go_sem, seval, strR_len, strR_pure, subM, leV, inns, innr, V.inn, us, true_or, or_true]))
  · refine AWp.exit ?_
    refine AWp.seq ?_
    refine AWp.rgn [] (by simp only [go_sem, seval, strR_len, strR_pure]; rfl) ?_ ?_
    · (first | trivial | (simp; done))
    refine AWp.ret (And.intro (.inr rfl) ?_)
    exact Out.plain (by simp only [Tryz.results198]; rfl) (by simp only [resCs, resC, go_sem, seval, strR_len, strR_pure] <;> (split <;> rfl)) (by simp only [resV, go_sem, seval, strR_len, strR_pure] <;> (simp at h10; (obtain rfl : k = 0 := (by omega)); rw [hI.2]; rfl)) (by simp only [go_sem, seval, strR_len, strR_pure])
theorem mul_le (a b : Int) (ha : -1000000 ≤ a ∧ a ≤ 1000000) (hb : -1000000 ≤ b ∧ b ≤ 1000000) : -1000000000000 ≤ a * b ∧ a * b ≤ 1000000000000 := by
  have h1 : (a * b).natAbs ≤ 1000000 * 1000000 := by rw [Int.natAbs_mul]; exact Nat.mul_le_mul (by omega) (by omega)
  omega
theorem sTwo_a (s : Str) (a b : Int) (ha : -1000000 ≤ a ∧ a ≤ 1000000) (hb : -1000000 ≤ b ∧ b ≤ 1000000) : ACall En 200 [.s s, .i .i64 a, .i .i64 b] [] [.i .i64 (twI s a b)] [] := by
  have hm := mul_le a b ha hb
  refine acall_of_body (fn := Tryz.f200) [] Tryz.func200 rfl rfl (by simp) fun C => ?_
  rw [entry_eq]
  simp only [Tryz.ntmps200, List.length_cons, List.length_nil, Nat.reduceAdd, Nat.reduceSub, List.replicate_succ, List.replicate_zero, List.cons_append, List.nil_append, numL]
  refine AWp.seq ?_
  refine AWp.rgn [] (by simp only [go_sem, seval]; rfl) ?_ ?_
  · first | trivial | simp
  refine AWp.seq ?_
  refine AWp.seq ?_
  refine AWp.rgn [] (by simp only [go_sem, seval]; rfl) ?_ ?_
  · first | trivial | simp
  refine AWp.block ?_
  refine AWp.seq ?_
  refine AWp.rgn [] (by simp only [go_sem, seval]; rfl) ?_ ?_
  · first | trivial | simp
  refine AWp.condB (by simp only [go_sem, seval]; rfl) (by simp only [go_sem, seval]) (fun h8 => ?_) (fun h8 => ?_)
  · refine AWp.seq ?_
    refine AWp.rgn [call0 (sCut_a (a + b))] (by simp only [go_sem, seval, wrap64 (show -9223372036854775808 ≤ a + b by omega) (by omega)]; rfl) ?_ ?_
    · first | trivial | simp
    refine AWp.ret (And.intro (.inr rfl) ?_)
    exact Out.plain (by simp only [Tryz.results200]; rfl) (by simp only [resCs, resC, go_sem, seval] <;> (split <;> rfl)) (by simp only [resV, go_sem, seval] <;> (simp_all [twI])) (by simp only [go_sem, seval])
  · refine AWp.seq ?_
    refine AWp.rgn [] (by simp only [go_sem, seval]; rfl) ?_ ?_
    · first | trivial | simp
    refine AWp.condB (by simp only [go_sem, seval]; rfl) (by simp only [go_sem, seval]) (fun h14 => ?_) (fun h14 => ?_)
    · refine AWp.seq ?_
      refine AWp.rgn [call0 (sCut_a (a - b))] (by simp only [go_sem, seval, wrap64 (show -9223372036854775808 ≤ a - b by omega) (by omega)]; rfl) ?_ ?_
      · first | trivial | simp
      refine AWp.ret (And.intro (.inr rfl) ?_)
      exact Out.plain (by simp only [Tryz.results200]; rfl) (by simp only [resCs, resC, go_sem, seval] <;> (split <;> rfl)) (by simp only [resV, go_sem, seval] <;> (simp_all [twI])) (by simp only [go_sem, seval])
    · refine AWp.seq ?_
      refine AWp.rgn [] (by simp only [go_sem, seval]; rfl) ?_ ?_
      · first | trivial | simp
      refine AWp.condB (by simp only [go_sem, seval]; rfl) (by simp only [go_sem, seval]) (fun h20 => ?_) (fun h20 => ?_)
      · refine AWp.seq ?_
        refine AWp.rgn [call0 (sCut_a (a * b))] (by simp only [go_sem, seval, wrap64 (show -9223372036854775808 ≤ a * b by omega) (by omega)]; rfl) ?_ ?_
        · first | trivial | simp
        refine AWp.ret (And.intro (.inr rfl) ?_)
        exact Out.plain (by simp only [Tryz.results200]; rfl) (by simp only [resCs, resC, go_sem, seval] <;> (split <;> rfl)) (by simp only [resV, go_sem, seval] <;> (simp_all [twI])) (by simp only [go_sem, seval])
      · refine AWp.skip ?_
        refine AWp.seq ?_
        refine AWp.seq ?_
        refine AWp.rgn [] (by simp only [go_sem, seval]; rfl) ?_ ?_
        · first | trivial | simp
        refine AWp.condB (by simp only [go_sem, seval]; rfl) (by simp only [go_sem, seval]) (fun h28 => ?_) (fun h28 => ?_)
        · refine AWp.seq ?_
          refine AWp.rgn [] (by simp only [go_sem, seval]; rfl) ?_ ?_
          · first | trivial | simp
          refine AWp.ret (And.intro (.inr rfl) ?_)
          exact Out.plain (by simp only [Tryz.results200]; rfl) (by simp only [resCs, resC, go_sem, seval] <;> (split <;> rfl)) (by simp only [resV, go_sem, seval] <;> (simp_all [twI])) (by simp only [go_sem, seval])
        · refine AWp.skip ?_
          refine AWp.seq ?_
          refine AWp.rgn [] (by simp only [go_sem, seval]; rfl) ?_ ?_
          · first | trivial | simp
          refine AWp.ret (And.intro (.inr rfl) ?_)
          exact Out.plain (by simp only [Tryz.results200]; rfl) (by simp only [resCs, resC, go_sem, seval] <;> (split <;> rfl)) (by simp only [resV, go_sem, seval] <;> (simp_all [twI])) (by simp only [go_sem, seval])
theorem reckon_a (d : Nat) : ∀ (e : E) (N : List Str) (M : List Int), form e d = true → N.length = M.length → N.length ≤ 1000000 → ACall En 96 [.ag (eC e), .sl false (strR N), .sl false (inR M)] [] [.i .i64 (rk e N M).1, .b (rk e N M).2] [] := by
  induction d with
  | zero => intro e N M h; have := (form_open h).1; omega
  | succ d ih =>
  intro e N M h hl hn
  have e1 : ((d + 1 : Nat) : Int) - 1 = (d : Int) := by omega
  have g3 : e.kind = 3 → e.kids.length = 2 ∧ form (e.kids.getD 0 E0) d = true ∧ form (e.kids.getD 1 E0) d = true ∧ isOp e.s = true := fun hk => by
    rcases (form_open h).2 with ⟨k1, _⟩ | ⟨k1, _⟩ | ⟨k1, h1, h2, h3, h4, h5⟩ | ⟨k1, _⟩ <;> try omega
    rw [e1] at h4 h5; exact ⟨h3, h4, h5, h2⟩
  have g4 : e.kind = 4 → e.kids.length = 1 ∧ form (e.kids.getD 0 E0) d = true := fun hk => by
    rcases (form_open h).2 with ⟨k1, _⟩ | ⟨k1, _⟩ | ⟨k1, _⟩ | ⟨k1, h1, h2, h3, h4⟩ <;> try omega
    rw [e1] at h4; exact ⟨h3, h4⟩
  have g0 : ¬ e.kind = 1 → ¬ e.kind = 2 → ¬ e.kind = 4 → e.kind = 3 := fun a b c => by
    rcases (form_open h).2 with ⟨k1, _⟩ | ⟨k1, _⟩ | ⟨k1, _⟩ | ⟨k1, _⟩ <;> omega
  have hb := lastI_le N e.s
  have Q : e.kind = 3 → (-1000000 ≤ (rk (e.kids.getD 0 E0) N M).1 ∧ (rk (e.kids.getD 0 E0) N M).1 ≤ 1000000) ∧ (-1000000 ≤ (rk (e.kids.getD 1 E0) N M).1 ∧ (rk (e.kids.getD 1 E0) N M).1 ≤ 1000000) := fun hk =>
    ⟨rk_le d _ N M (g3 hk).2.1, rk_le d _ N M (g3 hk).2.2.1⟩
  have P := fun hk => mul_le _ _ (Q hk).1 (Q hk).2
  have R1 := @rk_one e
  have R2 := @rk_name e
  have R3 : e.kind = 3 → rk e N M = two2 e.s (rk (e.kids.getD 0 E0) N M) (rk (e.kids.getD 1 E0) N M) := fun hk => rk_two hk (g3 hk).1 N M
  have R4 : e.kind = 4 → rk e N M = rk (e.kids.getD 0 E0) N M := fun hk => rk_as hk (g4 hk).1 N M
  refine acall_of_body (fn := Tryz.f96) [] Tryz.func96 rfl rfl (by simp) fun C => ?_
  rw [entry_eq]
  simp only [Tryz.ntmps96, List.length_cons, List.length_nil, Nat.reduceAdd, Nat.reduceSub, List.replicate_succ, List.replicate_zero, List.cons_append, List.nil_append, numL]
  refine AWp.seq ?_
  refine AWp.rgn [] (by simp only [go_sem, seval, inR_len, inR_pure]; rfl) ?_ ?_
  · (first | trivial | (simp; done))
  refine AWp.seq ?_
  refine AWp.seq ?_
  refine AWp.rgn [] (by simp only [go_sem, seval, inR_len, inR_pure]; rfl) ?_ ?_
  · (first | trivial | (simp; done))
  refine AWp.block ?_
  refine AWp.seq ?_
  refine AWp.rgn [] (by simp only [go_sem, seval, inR_len, inR_pure]; rfl) ?_ ?_
  · (first | trivial | (simp; done))
  refine AWp.condB (by simp only [go_sem, seval, inR_len, inR_pure]; rfl) (by simp only [go_sem, seval, inR_len, inR_pure]) (fun h15 => ?_) (fun h15 => ?_)
  · refine AWp.seq ?_
    refine AWp.rgn [] (by simp only [go_sem, seval, inR_len, inR_pure]; rfl) ?_ ?_
    · (first | trivial | (simp; done))
    refine AWp.ret (And.intro (.inr rfl) ?_)
    exact Out.plain (by simp only [Tryz.results96]; rfl) (by simp only [resCs, resC, go_sem, seval, inR_len, inR_pure] <;> (split <;> rfl)) (by simp only [resV, go_sem, seval, inR_len, inR_pure] <;> (rw [R1 (by simpa using h15)])) (by simp only [go_sem, seval, inR_len, inR_pure])
  · refine AWp.seq ?_
    refine AWp.rgn [] (by simp only [go_sem, seval, inR_len, inR_pure]; rfl) ?_ ?_
    · (first | trivial | (simp; done))
    refine AWp.condB (by simp only [go_sem, seval, inR_len, inR_pure]; rfl) (by simp only [go_sem, seval, inR_len, inR_pure]) (fun h19 => ?_) (fun h19 => ?_)
    · refine AWp.seq ?_
      refine AWp.rgn [call0 (last_a N e.s (by omega))] (by simp only [go_sem, seval, inR_len, inR_pure]; rfl) ?_ ?_
      · (first | trivial | (simp; done))
      refine AWp.seq ?_
      refine AWp.seq ?_
      refine AWp.rgn [] (by simp only [go_sem, seval, inR_len, inR_pure]; rfl) ?_ ?_
      · (first | trivial | (simp; done))
      refine AWp.condB (by simp only [go_sem, seval, inR_len, inR_pure]; rfl) (by simp only [go_sem, seval, inR_len, inR_pure]) (fun h26 => ?_) (fun h26 => ?_)
      · refine AWp.seq ?_
        refine AWp.rgn [] (by simp only [go_sem, seval, inR_len, inR_pure]; rfl) ?_ ?_
        · (first | trivial | (simp; done))
        refine AWp.ret (And.intro (.inr rfl) ?_)
        exact Out.plain (by simp only [Tryz.results96]; rfl) (by simp only [resCs, resC, go_sem, seval, inR_len, inR_pure] <;> (split <;> rfl)) (by simp only [resV, go_sem, seval, inR_len, inR_pure] <;> (rw [R2 (by simpa using h19), if_pos (by simpa using h26)])) (by simp only [go_sem, seval, inR_len, inR_pure])
      · refine AWp.skip ?_
        refine AWp.seq ?_
        refine AWp.rgn [call0 (cut_a (M.getD (lastI N e.s).toNat 0))] (by simp only [go_sem, seval, inR_len, inR_pure, inR_get (show (lastI N e.s).toNat < M.length by simp at h26; omega)]; rfl) ?_ ?_
        · simp at h26; (try simp); omega
        refine AWp.ret (And.intro (.inr rfl) ?_)
        exact Out.plain (by simp only [Tryz.results96]; rfl) (by simp only [resCs, resC, go_sem, seval, inR_len, inR_pure] <;> (split <;> rfl)) (by simp only [resV, go_sem, seval, inR_len, inR_pure] <;> (rw [R2 (by simpa using h19), if_neg (by simpa using h26)])) (by simp only [go_sem, seval, inR_len, inR_pure])
    · refine AWp.seq ?_
      refine AWp.rgn [] (by simp only [go_sem, seval, inR_len, inR_pure]; rfl) ?_ ?_
      · (first | trivial | (simp; done))
      refine AWp.condB (by simp only [go_sem, seval, inR_len, inR_pure]; rfl) (by simp only [go_sem, seval, inR_len, inR_pure]) (fun h32 => ?_) (fun h32 => ?_)
      · refine AWp.seq ?_
        refine AWp.rgn [call0 (ih (e.kids.getD 0 E0) N M (g4 (by simpa using h32)).2 hl hn)] (by simp only [go_sem, seval, inR_len, inR_pure, eR_get (show 0 < e.kids.length by have := g4 (by simpa using h32); omega)]; rfl) ?_ ?_
        · have := g4 (by simpa using h32); simp; omega
        refine AWp.ret (And.intro (.inr rfl) ?_)
        exact Out.plain (by simp only [Tryz.results96]; rfl) (by simp only [resCs, resC, go_sem, seval, inR_len, inR_pure] <;> (split <;> rfl)) (by simp only [resV, go_sem, seval, inR_len, inR_pure] <;> (rw [R4 (by simpa using h32)])) (by simp only [go_sem, seval, inR_len, inR_pure])
      · refine AWp.skip ?_
        refine AWp.seq ?_
        refine AWp.rgn [call0 (ih (e.kids.getD 0 E0) N M (g3 (g0 (by simpa using h15) (by simpa using h19) (by simpa using h32))).2.1 hl hn)] (by simp only [go_sem, seval, inR_len, inR_pure, eR_get (show 0 < e.kids.length by have := g3 (g0 (by simpa using h15) (by simpa using h19) (by simpa using h32)); omega)]; rfl) ?_ ?_
        · have := g3 (g0 (by simpa using h15) (by simpa using h19) (by simpa using h32)); simp; omega
        refine AWp.seq ?_
        refine AWp.rgn [call0 (ih (e.kids.getD 1 E0) N M (g3 (g0 (by simpa using h15) (by simpa using h19) (by simpa using h32))).2.2.1 hl hn)] (by simp only [go_sem, seval, inR_len, inR_pure, eR_get (show 1 < e.kids.length by have := g3 (g0 (by simpa using h15) (by simpa using h19) (by simpa using h32)); omega)]; rfl) ?_ ?_
        · have := g3 (g0 (by simpa using h15) (by simpa using h19) (by simpa using h32)); simp; omega
        refine AWp.seq ?_
        refine AWp.seq ?_
        refine AWp.rgn [] (by simp only [go_sem, seval, inR_len, inR_pure]; rfl) ?_ ?_
        · (first | trivial | (simp; done))
        refine AWp.condB (by simp only [go_sem, seval, inR_len, inR_pure]; rfl) (by simp only [go_sem, seval, inR_len, inR_pure]) (fun h68 => ?_) (fun h68 => ?_)
        · refine AWp.seq ?_
          refine AWp.rgn [] (by simp only [go_sem, seval, inR_len, inR_pure]; rfl) ?_ ?_
          · (first | trivial | (simp; done))
          refine AWp.ret (And.intro (.inr rfl) ?_)
          exact Out.plain (by simp only [Tryz.results96]; rfl) (by simp only [resCs, resC, go_sem, seval, inR_len, inR_pure] <;> (split <;> rfl)) (by simp only [resV, go_sem, seval, inR_len, inR_pure] <;> (rw [R3 (g0 (by simpa using h15) (by simpa using h19) (by simpa using h32))]; simp at h68; (rcases h68 with h | h <;> simp [two2, h]))) (by simp only [go_sem, seval, inR_len, inR_pure])
        · refine AWp.skip ?_
          refine AWp.seq ?_
          refine AWp.seq ?_
          refine AWp.rgn [] (by simp only [go_sem, seval, inR_len, inR_pure]; rfl) ?_ ?_
          · (first | trivial | (simp; done))
          refine AWp.block ?_
          refine AWp.seq ?_
          refine AWp.rgn [] (by simp only [go_sem, seval, inR_len, inR_pure]; rfl) ?_ ?_
          · (first | trivial | (simp; done))
          refine AWp.condB (by simp only [go_sem, seval, inR_len, inR_pure]; rfl) (by simp only [go_sem, seval, inR_len, inR_pure]) (fun h71 => ?_) (fun h71 => ?_)
          · refine AWp.seq ?_
            refine AWp.rgn [call0 (cut_a ((rk (e.kids.getD 0 E0) N M).1 + (rk (e.kids.getD 1 E0) N M).1))] (by simp only [go_sem, seval, inR_len, inR_pure, wrap64 (show -9223372036854775808 ≤ (rk (e.kids.getD 0 E0) N M).1 + (rk (e.kids.getD 1 E0) N M).1 by have := Q (g0 (by simpa using h15) (by simpa using h19) (by simpa using h32)); omega) (by have := Q (g0 (by simpa using h15) (by simpa using h19) (by simpa using h32)); omega)]; rfl) ?_ ?_
            · (first | trivial | (simp; done))
            refine AWp.ret (And.intro (.inr rfl) ?_)
            exact Out.plain (by simp only [Tryz.results96]; rfl) (by simp only [resCs, resC, go_sem, seval, inR_len, inR_pure] <;> (split <;> rfl)) (by simp only [resV, go_sem, seval, inR_len, inR_pure] <;> (rw [R3 (g0 (by simpa using h15) (by simpa using h19) (by simpa using h32))]; simp at h68 h71; simp [two2, twI, h68, h71])) (by simp only [go_sem, seval, inR_len, inR_pure])
          · refine AWp.seq ?_
            refine AWp.rgn [] (by simp only [go_sem, seval, inR_len, inR_pure]; rfl) ?_ ?_
            · (first | trivial | (simp; done))
            refine AWp.condB (by simp only [go_sem, seval, inR_len, inR_pure]; rfl) (by simp only [go_sem, seval, inR_len, inR_pure]) (fun h77 => ?_) (fun h77 => ?_)
            · refine AWp.seq ?_
              refine AWp.rgn [call0 (cut_a ((rk (e.kids.getD 0 E0) N M).1 - (rk (e.kids.getD 1 E0) N M).1))] (by simp only [go_sem, seval, inR_len, inR_pure, wrap64 (show -9223372036854775808 ≤ (rk (e.kids.getD 0 E0) N M).1 - (rk (e.kids.getD 1 E0) N M).1 by have := Q (g0 (by simpa using h15) (by simpa using h19) (by simpa using h32)); omega) (by have := Q (g0 (by simpa using h15) (by simpa using h19) (by simpa using h32)); omega)]; rfl) ?_ ?_
              · (first | trivial | (simp; done))
              refine AWp.ret (And.intro (.inr rfl) ?_)
              exact Out.plain (by simp only [Tryz.results96]; rfl) (by simp only [resCs, resC, go_sem, seval, inR_len, inR_pure] <;> (split <;> rfl)) (by simp only [resV, go_sem, seval, inR_len, inR_pure] <;> (rw [R3 (g0 (by simpa using h15) (by simpa using h19) (by simpa using h32))]; simp at h68 h71 h77; simp [two2, twI, h68, h71, h77])) (by simp only [go_sem, seval, inR_len, inR_pure])
            · refine AWp.seq ?_
              refine AWp.rgn [] (by simp only [go_sem, seval, inR_len, inR_pure]; rfl) ?_ ?_
              · (first | trivial | (simp; done))
              refine AWp.condB (by simp only [go_sem, seval, inR_len, inR_pure]; rfl) (by simp only [go_sem, seval, inR_len, inR_pure]) (fun h83 => ?_) (fun h83 => ?_)
              · refine AWp.seq ?_
                refine AWp.rgn [call0 (cut_a ((rk (e.kids.getD 0 E0) N M).1 * (rk (e.kids.getD 1 E0) N M).1))] (by simp only [go_sem, seval, inR_len, inR_pure, wrap64 (show -9223372036854775808 ≤ (rk (e.kids.getD 0 E0) N M).1 * (rk (e.kids.getD 1 E0) N M).1 by have := P (g0 (by simpa using h15) (by simpa using h19) (by simpa using h32)); omega) (by have := P (g0 (by simpa using h15) (by simpa using h19) (by simpa using h32)); omega)]; rfl) ?_ ?_
                · (first | trivial | (simp; done))
                refine AWp.ret (And.intro (.inr rfl) ?_)
                exact Out.plain (by simp only [Tryz.results96]; rfl) (by simp only [resCs, resC, go_sem, seval, inR_len, inR_pure] <;> (split <;> rfl)) (by simp only [resV, go_sem, seval, inR_len, inR_pure] <;> (rw [R3 (g0 (by simpa using h15) (by simpa using h19) (by simpa using h32))]; simp at h68 h71 h77 h83; simp [two2, twI, h68, h71, h77, h83])) (by simp only [go_sem, seval, inR_len, inR_pure])
              · refine AWp.skip ?_
                refine AWp.seq ?_
                refine AWp.seq ?_
                refine AWp.rgn [] (by simp only [go_sem, seval, inR_len, inR_pure]; rfl) ?_ ?_
                · (first | trivial | (simp; done))
                refine AWp.condB (by simp only [go_sem, seval, inR_len, inR_pure]; rfl) (by simp only [go_sem, seval, inR_len, inR_pure]) (fun h91 => ?_) (fun h91 => ?_)
                · refine AWp.seq ?_
                  refine AWp.rgn [] (by simp only [go_sem, seval, inR_len, inR_pure]; rfl) ?_ ?_
                  · (first | trivial | (simp; done))
                  refine AWp.ret (And.intro (.inr rfl) ?_)
                  exact Out.plain (by simp only [Tryz.results96]; rfl) (by simp only [resCs, resC, go_sem, seval, inR_len, inR_pure] <;> (split <;> rfl)) (by simp only [resV, go_sem, seval, inR_len, inR_pure] <;> (rw [R3 (g0 (by simpa using h15) (by simpa using h19) (by simpa using h32))]; simp at h68 h71 h77 h83 h91; simp [two2, twI, h68, h71, h77, h83, h91])) (by simp only [go_sem, seval, inR_len, inR_pure])
                · refine AWp.skip ?_
                  refine AWp.seq ?_
                  refine AWp.rgn [] (by simp only [go_sem, seval, inR_len, inR_pure]; rfl) ?_ ?_
                  · (first | trivial | (simp; done))
                  refine AWp.ret (And.intro (.inr rfl) ?_)
                  exact Out.plain (by simp only [Tryz.results96]; rfl) (by simp only [resCs, resC, go_sem, seval, inR_len, inR_pure] <;> (split <;> rfl)) (by simp only [resV, go_sem, seval, inR_len, inR_pure] <;> (rw [R3 (g0 (by simpa using h15) (by simpa using h19) (by simpa using h32))]; simp at h68 h71 h77 h83 h91; simp [two2, twI, h68, h71, h77, h83, Int.not_lt.2 h91])) (by simp only [go_sem, seval, inR_len, inR_pure])
theorem sOf_a (d : Nat) : ∀ (e : E) (N : List Str) (M : List Int), form e d = true → N.length = M.length → N.length ≤ 1000000 → ACall En 158 [.ag (eC e), .sl false (strR N), .sl false (inR M)] [] [.i .i64 (rk e N M).1, .b (rk e N M).2] [] := by
  induction d with
  | zero => intro e N M h; have := (form_open h).1; omega
  | succ d ih =>
  intro e N M h hl hn
  have e1 : ((d + 1 : Nat) : Int) - 1 = (d : Int) := by omega
  have g3 : e.kind = 3 → e.kids.length = 2 ∧ form (e.kids.getD 0 E0) d = true ∧ form (e.kids.getD 1 E0) d = true ∧ isOp e.s = true := fun hk => by
    rcases (form_open h).2 with ⟨k1, _⟩ | ⟨k1, _⟩ | ⟨k1, h1, h2, h3, h4, h5⟩ | ⟨k1, _⟩ <;> try omega
    rw [e1] at h4 h5; exact ⟨h3, h4, h5, h2⟩
  have g4 : e.kind = 4 → e.kids.length = 1 ∧ form (e.kids.getD 0 E0) d = true := fun hk => by
    rcases (form_open h).2 with ⟨k1, _⟩ | ⟨k1, _⟩ | ⟨k1, _⟩ | ⟨k1, h1, h2, h3, h4⟩ <;> try omega
    rw [e1] at h4; exact ⟨h3, h4⟩
  have g0 : ¬ e.kind = 1 → ¬ e.kind = 2 → ¬ e.kind = 4 → e.kind = 3 := fun a b c => by
    rcases (form_open h).2 with ⟨k1, _⟩ | ⟨k1, _⟩ | ⟨k1, _⟩ | ⟨k1, _⟩ <;> omega
  have hb := lastI_le N e.s
  have Q : e.kind = 3 → (-1000000 ≤ (rk (e.kids.getD 0 E0) N M).1 ∧ (rk (e.kids.getD 0 E0) N M).1 ≤ 1000000) ∧ (-1000000 ≤ (rk (e.kids.getD 1 E0) N M).1 ∧ (rk (e.kids.getD 1 E0) N M).1 ≤ 1000000) := fun hk =>
    ⟨rk_le d _ N M (g3 hk).2.1, rk_le d _ N M (g3 hk).2.2.1⟩
  have P := fun hk => mul_le _ _ (Q hk).1 (Q hk).2
  have R1 := @rk_one e
  have R2 := @rk_name e
  have R3 : e.kind = 3 → rk e N M = two2 e.s (rk (e.kids.getD 0 E0) N M) (rk (e.kids.getD 1 E0) N M) := fun hk => rk_two hk (g3 hk).1 N M
  have R4 : e.kind = 4 → rk e N M = rk (e.kids.getD 0 E0) N M := fun hk => rk_as hk (g4 hk).1 N M
  refine acall_of_body (fn := Tryz.f158) [] Tryz.func158 rfl rfl (by simp) fun C => ?_
  rw [entry_eq]
  simp only [Tryz.ntmps158, List.length_cons, List.length_nil, Nat.reduceAdd, Nat.reduceSub, List.replicate_succ, List.replicate_zero, List.cons_append, List.nil_append, numL]
  refine AWp.seq ?_
  refine AWp.rgn [] (by simp only [go_sem, seval, inR_len, inR_pure]; rfl) ?_ ?_
  · (first | trivial | (simp; done))
  refine AWp.seq ?_
  refine AWp.seq ?_
  refine AWp.rgn [] (by simp only [go_sem, seval, inR_len, inR_pure]; rfl) ?_ ?_
  · (first | trivial | (simp; done))
  refine AWp.block ?_
  refine AWp.seq ?_
  refine AWp.rgn [] (by simp only [go_sem, seval, inR_len, inR_pure]; rfl) ?_ ?_
  · (first | trivial | (simp; done))
  refine AWp.condB (by simp only [go_sem, seval, inR_len, inR_pure]; rfl) (by simp only [go_sem, seval, inR_len, inR_pure]) (fun h15 => ?_) (fun h15 => ?_)
  · refine AWp.seq ?_
    refine AWp.rgn [] (by simp only [go_sem, seval, inR_len, inR_pure]; rfl) ?_ ?_
    · (first | trivial | (simp; done))
    refine AWp.ret (And.intro (.inr rfl) ?_)
    exact Out.plain (by simp only [Tryz.results158]; rfl) (by simp only [resCs, resC, go_sem, seval, inR_len, inR_pure] <;> (split <;> rfl)) (by simp only [resV, go_sem, seval, inR_len, inR_pure] <;> (rw [R1 (by simpa using h15)])) (by simp only [go_sem, seval, inR_len, inR_pure])
  · refine AWp.seq ?_
    refine AWp.rgn [] (by simp only [go_sem, seval, inR_len, inR_pure]; rfl) ?_ ?_
    · (first | trivial | (simp; done))
    refine AWp.condB (by simp only [go_sem, seval, inR_len, inR_pure]; rfl) (by simp only [go_sem, seval, inR_len, inR_pure]) (fun h19 => ?_) (fun h19 => ?_)
    · refine AWp.seq ?_
      refine AWp.rgn [call0 (sFind_a N e.s (by omega))] (by simp only [go_sem, seval, inR_len, inR_pure]; rfl) ?_ ?_
      · (first | trivial | (simp; done))
      refine AWp.seq ?_
      refine AWp.seq ?_
      refine AWp.rgn [] (by simp only [go_sem, seval, inR_len, inR_pure]; rfl) ?_ ?_
      · (first | trivial | (simp; done))
      refine AWp.condB (by simp only [go_sem, seval, inR_len, inR_pure]; rfl) (by simp only [go_sem, seval, inR_len, inR_pure]) (fun h26 => ?_) (fun h26 => ?_)
      · refine AWp.seq ?_
        refine AWp.rgn [] (by simp only [go_sem, seval, inR_len, inR_pure]; rfl) ?_ ?_
        · (first | trivial | (simp; done))
        refine AWp.ret (And.intro (.inr rfl) ?_)
        exact Out.plain (by simp only [Tryz.results158]; rfl) (by simp only [resCs, resC, go_sem, seval, inR_len, inR_pure] <;> (split <;> rfl)) (by simp only [resV, go_sem, seval, inR_len, inR_pure] <;> (rw [R2 (by simpa using h19), if_pos (by simpa using h26)])) (by simp only [go_sem, seval, inR_len, inR_pure])
      · refine AWp.skip ?_
        refine AWp.seq ?_
        refine AWp.rgn [call0 (sCut_a (M.getD (lastI N e.s).toNat 0))] (by simp only [go_sem, seval, inR_len, inR_pure, inR_get (show (lastI N e.s).toNat < M.length by simp at h26; omega)]; rfl) ?_ ?_
        · simp at h26; (try simp); omega
        refine AWp.ret (And.intro (.inr rfl) ?_)
        exact Out.plain (by simp only [Tryz.results158]; rfl) (by simp only [resCs, resC, go_sem, seval, inR_len, inR_pure] <;> (split <;> rfl)) (by simp only [resV, go_sem, seval, inR_len, inR_pure] <;> (rw [R2 (by simpa using h19), if_neg (by simpa using h26)])) (by simp only [go_sem, seval, inR_len, inR_pure])
    · refine AWp.seq ?_
      refine AWp.rgn [] (by simp only [go_sem, seval, inR_len, inR_pure]; rfl) ?_ ?_
      · (first | trivial | (simp; done))
      refine AWp.condB (by simp only [go_sem, seval, inR_len, inR_pure]; rfl) (by simp only [go_sem, seval, inR_len, inR_pure]) (fun h32 => ?_) (fun h32 => ?_)
      · refine AWp.seq ?_
        refine AWp.rgn [call0 (ih (e.kids.getD 0 E0) N M (g4 (by simpa using h32)).2 hl hn)] (by simp only [go_sem, seval, inR_len, inR_pure, eR_get (show 0 < e.kids.length by have := g4 (by simpa using h32); omega)]; rfl) ?_ ?_
        · have := g4 (by simpa using h32); simp; omega
        refine AWp.ret (And.intro (.inr rfl) ?_)
        exact Out.plain (by simp only [Tryz.results158]; rfl) (by simp only [resCs, resC, go_sem, seval, inR_len, inR_pure] <;> (split <;> rfl)) (by simp only [resV, go_sem, seval, inR_len, inR_pure] <;> (rw [R4 (by simpa using h32)])) (by simp only [go_sem, seval, inR_len, inR_pure])
      · refine AWp.skip ?_
        refine AWp.seq ?_
        refine AWp.rgn [call0 (ih (e.kids.getD 0 E0) N M (g3 (g0 (by simpa using h15) (by simpa using h19) (by simpa using h32))).2.1 hl hn)] (by simp only [go_sem, seval, inR_len, inR_pure, eR_get (show 0 < e.kids.length by have := g3 (g0 (by simpa using h15) (by simpa using h19) (by simpa using h32)); omega)]; rfl) ?_ ?_
        · have := g3 (g0 (by simpa using h15) (by simpa using h19) (by simpa using h32)); simp; omega
        refine AWp.seq ?_
        refine AWp.rgn [call0 (ih (e.kids.getD 1 E0) N M (g3 (g0 (by simpa using h15) (by simpa using h19) (by simpa using h32))).2.2.1 hl hn)] (by simp only [go_sem, seval, inR_len, inR_pure, eR_get (show 1 < e.kids.length by have := g3 (g0 (by simpa using h15) (by simpa using h19) (by simpa using h32)); omega)]; rfl) ?_ ?_
        · have := g3 (g0 (by simpa using h15) (by simpa using h19) (by simpa using h32)); simp; omega
        refine AWp.seq ?_
        refine AWp.seq ?_
        refine AWp.rgn [] (by simp only [go_sem, seval, inR_len, inR_pure]; rfl) ?_ ?_
        · (first | trivial | (simp; done))
        refine AWp.condB (by simp only [go_sem, seval, inR_len, inR_pure]; rfl) (by simp only [go_sem, seval, inR_len, inR_pure]) (fun h68 => ?_) (fun h68 => ?_)
        · refine AWp.seq ?_
          refine AWp.rgn [] (by simp only [go_sem, seval, inR_len, inR_pure]; rfl) ?_ ?_
          · (first | trivial | (simp; done))
          refine AWp.ret (And.intro (.inr rfl) ?_)
          exact Out.plain (by simp only [Tryz.results158]; rfl) (by simp only [resCs, resC, go_sem, seval, inR_len, inR_pure] <;> (split <;> rfl)) (by simp only [resV, go_sem, seval, inR_len, inR_pure] <;> (rw [R3 (g0 (by simpa using h15) (by simpa using h19) (by simpa using h32))]; simp at h68; (rcases h68 with h | h <;> simp [two2, h]))) (by simp only [go_sem, seval, inR_len, inR_pure])
        · refine AWp.skip ?_
          refine AWp.seq ?_
          refine AWp.rgn [call0 (sTwo_a e.s (rk (e.kids.getD 0 E0) N M).1 (rk (e.kids.getD 1 E0) N M).1 (Q (g0 (by simpa using h15) (by simpa using h19) (by simpa using h32))).1 (Q (g0 (by simpa using h15) (by simpa using h19) (by simpa using h32))).2)] (by simp only [go_sem, seval, inR_len, inR_pure]; rfl) ?_ ?_
          · (first | trivial | (simp; done))
          refine AWp.ret (And.intro (.inr rfl) ?_)
          exact Out.plain (by simp only [Tryz.results158]; rfl) (by simp only [resCs, resC, go_sem, seval, inR_len, inR_pure] <;> (split <;> rfl)) (by simp only [resV, go_sem, seval, inR_len, inR_pure] <;> (rw [R3 (g0 (by simpa using h15) (by simpa using h19) (by simpa using h32))]; simp at h68; simp [two2, h68])) (by simp only [go_sem, seval, inR_len, inR_pure])
end

section
set_option maxRecDepth 100000
set_option maxHeartbeats 4000000

def bLR (l : List Bl) : List (List V) := l.map bC
theorem bLR_len (l : List Bl) : (bLR l).length = l.length := by simp [bLR]
theorem bC_pure (b : Bl) : pures (bC b) = true := by rw [bC_eq]; simp only [pures, V.pure, eR_pure, Bool.and_self]
theorem bLR_pure (l : List Bl) : purer (bLR l) = true := purer_mem.2 fun r hr => by obtain ⟨s, _, rfl⟩ := List.mem_map.1 hr; exact bC_pure s
theorem bLR_get {l : List Bl} {k : Nat} (h : k < l.length) : (bLR l).getD k [] = bC (l.getD k B0) := by
  simp [bLR, List.getD_eq_getElem?_getD, List.getElem?_eq_getElem h]
theorem bLR_app (a b : List Bl) : bLR (a ++ b) = bLR a ++ bLR b := by simp [bLR]
def allB (l : List Bl) : Bool := l.all smb
theorem allB_at {l : List Bl} (h : allB l = true) {k : Nat} (hk : k < l.length) : smb (l.getD k B0) = true := List.all_eq_true.1 h _ (getD_mem hk)
theorem bareRun1_a (b : Bl) (hs : smb b = true) : ACall En 106 [.ag (bC b)] [] [.b (!bok b)] [] := by
  refine acall_of_body (fn := Tryz.f106) [] Tryz.func106 rfl rfl (by simp) fun C => ?_
  rw [entry_eq]
  simp only [Tryz.ntmps106, List.length_cons, List.length_nil, Nat.reduceAdd, Nat.reduceSub, List.replicate_succ, List.replicate_zero, List.cons_append, List.nil_append, numL]
  refine AWp.seq ?_
  refine AWp.rgn [] (by simp only [go_sem, seval, bC_eq]; rfl) ?_ ?_
  · (first | trivial | (simp; done))
  refine AWp.seq ?_
  refine AWp.rgn [call0 (iBareOk_a b hs)] (by simp only [go_sem, seval, bC_eq]; rfl) ?_ ?_
  · (first | trivial | (simp; done))
  refine AWp.ret (And.intro (.inr rfl) ?_)
  exact Out.plain (by simp only [Tryz.results106]; rfl) (by simp only [resCs, resC, go_sem, seval, bC_eq] <;> (split <;> rfl)) (by simp only [resV, go_sem, seval, bC_eq] <;> (rfl)) (by simp only [go_sem, seval, bC_eq])
theorem idxBl_a (l : List Bl) (hs : allB l = true) (hl : l.length < 4611686018427387904) : ACall En 163 [.sl false (bLR l), .fn (.func 106) [] []] [] [.i .i64 (idxP (fun s => !bok s) l)] [] := by
  refine acall_of_body (fn := Tryz.f163) [] Tryz.func163 rfl rfl (by simp) fun C => ?_
  rw [entry_eq]
  simp only [Tryz.ntmps163, List.length_cons, List.length_nil, Nat.reduceAdd, Nat.reduceSub, List.replicate_succ, List.replicate_zero, List.cons_append, List.nil_append, numL]
  refine AWp.seq ?_
  refine AWp.rgn [] (by simp only [go_sem, seval, bLR_len, bLR_pure, bC_eq]; rfl) ?_ ?_
  · (first | trivial | (simp; done))
  refine AWp.seq ?_
  refine AWp.seq ?_
  refine AWp.rgn [] (by simp only [go_sem, seval, bLR_len, bLR_pure, bC_eq]; rfl) ?_ ?_
  · (first | trivial | (simp; done))
  refine AWp.block ?_
  refine AWp.loopK (fun k : Nat => ⟨[.sl false (bLR l), .fn (.func 106) [] [], .no, .no, .no, .no, .no, .i .i64 l.length, .i .i64 k, .no, .no, .no, .no, .no, .no, .no, .no, .no, .no], memOf [], us []⟩) (fun k : Nat => k ≤ l.length ∧ (l.take k).any (fun s => !bok s) = false) (fun k : Nat => l.length - k) (0) ?_ ?_ (fun k hI => ?_)
  · simp
  · exact Can.weak (Weak.lit (by simp only [go_sem, seval, bLR_len, bLR_pure, bC_eq, subM, leV, inns, innr, V.inn, us, true_or, or_true] <;> (simp)) (by simp only [go_sem, seval, bLR_len, bLR_pure, bC_eq, subM, leV, inns, innr, V.inn, us, true_or, or_true]) (by simp only [go_sem, seval, bLR_len, bLR_pure, bC_eq, subM, leV, inns, innr, V.inn, us, true_or, or_true]))
  refine AWp.seq ?_
  refine AWp.rgn [] (by simp only [go_sem, seval, bLR_len, bLR_pure, bC_eq]; rfl) ?_ ?_
  · (first | trivial | (simp; done))
  refine AWp.seq ?_
  refine AWp.condB (by simp only [go_sem, seval, bLR_len, bLR_pure, bC_eq]; rfl) (by simp only [go_sem, seval, bLR_len, bLR_pure, bC_eq]) (fun h9 => ?_) (fun h9 => ?_)
  · refine AWp.skip ?_
    refine AWp.seq ?_
    refine AWp.block ?_
    refine AWp.seq ?_
    refine AWp.rgn [] (by simp only [go_sem, seval, bLR_len, bLR_pure, bC_eq]; rfl) ?_ ?_
    · (first | trivial | (simp; done))
    refine AWp.seq ?_
    refine AWp.rgn [callI (k < l.length) (fun h => bareRun1_a (l.getD k B0) (allB_at hs h))] (by simp only [go_sem, seval, bLR_len, bLR_pure, bC_eq, bLR_get (show k < l.length by simpa using h9)]; rfl) ?_ ?_
    · simp only [decide_eq_true_eq] at h9; simp; omega
    refine AWp.condB (by simp only [go_sem, seval, bLR_len, bLR_pure, bC_eq]; rfl) (by simp only [go_sem, seval, bLR_len, bLR_pure, bC_eq]) (fun h16 => ?_) (fun h16 => ?_)
    · refine AWp.seq ?_
      refine AWp.rgn [] (by simp only [go_sem, seval, bLR_len, bLR_pure, bC_eq]; rfl) ?_ ?_
      · (first | trivial | (simp; done))
      refine AWp.ret (And.intro (.inr rfl) ?_)
      exact Out.plain (by simp only [Tryz.results163]; rfl) (by simp only [resCs, resC, go_sem, seval, bLR_len, bLR_pure, bC_eq] <;> (split <;> rfl)) (by simp only [resV, go_sem, seval, bLR_len, bLR_pure, bC_eq] <;> (simp at h9; rw [idxP_at (d := B0) h9 hI.2 h16])) (by simp only [go_sem, seval, bLR_len, bLR_pure, bC_eq])
    · refine AWp.skip ?_
      refine AWp.rgn [] (by simp only [go_sem, seval, bLR_len, bLR_pure, bC_eq]; rfl) ?_ ?_
      · (first | trivial | (simp; done))
      refine Exists.intro (k + 1) ⟨?_, ?_, ?_⟩
      · simp at h9; refine ⟨by omega, ?_⟩; rw [any_take (d := B0) h9, hI.2, h16]; rfl
      · simp at h9; omega
      exact Can.weak (Weak.lit (by simp only [go_sem, seval, bLR_len, bLR_pure, bC_eq, subM, leV, inns, innr, V.inn, us, true_or, or_true] <;> (rw [wrap64 (by omega) (by omega)]; simp)) (by simp only [go_sem, seval, bLR_len, bLR_pure, bC_eq, subM, leV, inns, innr, V.inn, us, true_or, or_true]) (by simp only [go_sem, seval, bLR_len, bLR_pure, bC_eq, subM, leV, inns, innr, V.inn, us, true_or, or_true]))
  · refine AWp.exit ?_
    refine AWp.seq ?_
    refine AWp.rgn [] (by simp only [go_sem, seval, bLR_len, bLR_pure, bC_eq]; rfl) ?_ ?_
    · (first | trivial | (simp; done))
    refine AWp.ret (And.intro (.inr rfl) ?_)
    exact Out.plain (by simp only [Tryz.results163]; rfl) (by simp only [resCs, resC, go_sem, seval, bLR_len, bLR_pure, bC_eq] <;> (split <;> rfl)) (by simp only [resV, go_sem, seval, bLR_len, bLR_pure, bC_eq] <;> (simp at h9; have h0 := hI.2; rw [List.take_of_length_le h9] at h0; rw [idxP_none h0])) (by simp only [go_sem, seval, bLR_len, bLR_pure, bC_eq])
theorem containsBl_a (l : List Bl) (hs : allB l = true) (hl : l.length < 4611686018427387904) : ACall En 105 [.sl false (bLR l), .fn (.func 106) [] []] [] [.b (l.any fun s => !bok s)] [] := by
  refine acall_of_body (fn := Tryz.f105) [] Tryz.func105 rfl rfl (by simp) fun C => ?_
  rw [entry_eq]
  simp only [Tryz.ntmps105, List.length_cons, List.length_nil, Nat.reduceAdd, Nat.reduceSub, List.replicate_succ, List.replicate_zero, List.cons_append, List.nil_append, numL]
  refine AWp.seq ?_
  refine AWp.rgn [] (by simp only [go_sem, seval, bLR_pure]; rfl) ?_ ?_
  · (first | trivial | (simp; done))
  refine AWp.seq ?_
  refine AWp.rgn [call0 (idxBl_a l hs hl)] (by simp only [go_sem, seval, bLR_pure]; rfl) ?_ ?_
  · (first | trivial | (simp; done))
  refine AWp.ret (And.intro (.inr rfl) ?_)
  exact Out.plain (by simp only [Tryz.results105]; rfl) (by simp only [resCs, resC, go_sem, seval, bLR_pure] <;> (split <;> rfl)) (by simp only [resV, go_sem, seval, bLR_pure] <;> (rw [idxP_ge])) (by simp only [go_sem, seval, bLR_pure])
theorem anyB (l : List Bl) : (l.any fun s => !bok s) = !l.all bok := by rw [List.any_eq_not_all_not]; simp
theorem lok_open {l : List Bl} (h : lok l = true) : 1 ≤ l.length ∧ l.length ≤ 16 ∧ ∀ k, k < l.length → bok (l.getD k B0) = true := by
  simp only [lok, Bool.and_eq_true, decide_eq_true_eq, List.all_eq_true] at h
  exact ⟨h.1.1, h.1.2, fun k hk => h.2 _ (getD_mem hk)⟩
theorem bok_expr {b : Bl} (h : bok b = true) (k : ¬ b.kind = 0) : eok b.expr = true := by
  have h0 : bok0 b = true := by simp only [bok, Bool.and_eq_true] at h; exact h.1
  unfold bok0 at h0
  by_cases k1 : b.kind = 1
  · simp [k1] at h0; exact pe_eok h0.1.2
  by_cases k2 : b.kind = 2
  · simp [k2] at h0; exact pe_eok h0.1.2
  by_cases k3 : b.kind = 3
  · simp [k3] at h0; exact pe_eok h0.1.2
  · simp [k, k1, k2, k3] at h0
theorem bok_thn {b : Bl} (h : bok b = true) (k : b.kind = 3) : eok b.thn = true := by
  have h0 : bok0 b = true := by simp only [bok, Bool.and_eq_true] at h; exact h.1
  unfold bok0 at h0
  simp [k] at h0; exact pe_eok h0.2
theorem bok_kind {b : Bl} (h : bok b = true) : b.kind = 0 ∨ b.kind = 1 ∨ b.kind = 2 ∨ b.kind = 3 := by
  have h0 : bok0 b = true := by simp only [bok, Bool.and_eq_true] at h; exact h.1
  unfold bok0 at h0
  by_cases k0 : b.kind = 0
  · exact .inl k0
  by_cases k1 : b.kind = 1
  · exact .inr (.inl k1)
  by_cases k2 : b.kind = 2
  · exact .inr (.inr (.inl k2))
  by_cases k3 : b.kind = 3
  · exact .inr (.inr (.inr k3))
  · simp [k0, k1, k2, k3] at h0
theorem step_none {r : Rs} {b : Bl} (k : b.kind = 0) : stepR r b = r := by unfold stepR; split <;> simp_all
theorem step_stop {r : Rs} {b : Bl} (h : r.ok = true) (k : ¬ b.kind = 0) (h2 : (both b r.names r.nums).2.2 = false) : stepR r b = { r with ok := false } := by simp [stepR, h, k, h2]
theorem step_let {r : Rs} {b : Bl} (h : r.ok = true) (k : b.kind = 1) (h2 : (both b r.names r.nums).2.2 = true) : stepR r b = { r with names := r.names ++ [b.name], nums := r.nums ++ [(rk b.expr r.names r.nums).1] } := by
  have : (both b r.names r.nums).1 = (rk b.expr r.names r.nums).1 := by unfold both; split <;> rfl
  simp [stepR, h, k, h2, this]
theorem step_say' {r : Rs} {b : Bl} (h : r.ok = true) (k : ¬ b.kind = 0) (k1 : ¬ b.kind = 1) (h2 : (both b r.names r.nums).2.2 = true) (h3 : b.kind = 2 ∨ ¬ (rk b.expr r.names r.nums).1 = 0) : stepR r b = { r with said := r.said ++ [(both b r.names r.nums).2.1] } := by
  have e : (both b r.names r.nums).1 = (rk b.expr r.names r.nums).1 := by unfold both; split <;> rfl
  unfold stepR
  rw [if_neg (by simp [h]), if_neg k, if_neg (by simp [h2]), if_neg k1, if_pos (by rw [e]; exact h3)]
theorem step_mute {r : Rs} {b : Bl} (h : r.ok = true) (k : ¬ b.kind = 0) (k1 : ¬ b.kind = 1) (h2 : (both b r.names r.nums).2.2 = true) (h3 : ¬ b.kind = 2) (h4 : (rk b.expr r.names r.nums).1 = 0) : stepR r b = r := by
  have e : (both b r.names r.nums).1 = (rk b.expr r.names r.nums).1 := by unfold both; split <;> rfl
  unfold stepR
  rw [if_neg (by simp [h]), if_neg k, if_neg (by simp [h2]), if_neg k1, if_neg (by rw [e]; simp [h3, h4])]
theorem inR_snoc1 (l : List Int) (n : Int) : inR (l ++ [n]) = inR l ++ [[.i .i64 n]] := by rw [inR_app]; rfl
theorem strR_snoc1 (l : List Str) (s : Str) : strR (l ++ [s]) = strR l ++ [[.s s]] := by rw [strR_app]; rfl
theorem ClipInt_a (l : List Int) (n : Nat) (hn : n = l.length) (hl : l.length < 1099511627776) : ACall En 97 [.ow 0 1 0 n] [⟨3, 1, inR l⟩] [.ow 0 1 0 n] [⟨3, 1, inR l⟩] := by
  refine acall_of_body (fn := Tryz.f97) [0] Tryz.func97 rfl rfl (by simp) fun C => ?_
  rw [entry_eq]
  simp only [Tryz.ntmps97, List.length_cons, List.length_nil, Nat.reduceAdd, Nat.reduceSub, List.replicate_succ, List.replicate_zero, List.cons_append, List.nil_append, numL]
  refine AWp.seq ?_
  refine AWp.rgn [] (by simp only [go_sem, seval, inR_pure]; rfl) ?_ ?_
  · subst hn; simp [inR_len]
  refine AWp.seq ?_
  refine AWp.rgn [] (by simp only [go_sem, seval, inR_pure]; rfl) ?_ ?_
  · subst hn; simp [inR_len]
  refine AWp.ret (And.intro (.inr rfl) ?_)
  exact Out.mem' (by simp only [Tryz.results97]; rfl) (by simp only [resCs, resC, go_sem, seval, inR_pure]) (by simp only [resV, rns, rn, go_sem, seval, inR_pure] <;> (simp)) (by simp) rfl (by decide) (by simp only [go_sem, seval, inR_pure]) (by simp only [clrs, go_sem, seval, inR_pure]) (by simp only [memEq, go_sem, seval, inR_pure] <;> (simp [rnr_pure, inR_pure]))
theorem runs_lt {l : List Bl} {k : Nat} (hk : k ≤ l.length) (h16 : l.length ≤ 16) : (runs (l.take k)).names.length = (runs (l.take k)).nums.length ∧ (runs (l.take k)).names.length ≤ 16 ∧ (runs (l.take k)).said.length ≤ 16 := by
  have := runs_len l k hk; omega
theorem runs_none {l : List Bl} {k : Nat} (hk : k < l.length) (h : (l.getD k B0).kind = 0) : runs (l.take (k + 1)) = runs (l.take k) := by rw [runs_take hk, step_none h]
theorem runs_let {l : List Bl} {k : Nat} (hk : k < l.length) (h : (runs (l.take k)).ok = true) (h1 : (l.getD k B0).kind = 1) (h2 : (both (l.getD k B0) (runs (l.take k)).names (runs (l.take k)).nums).2.2 = true) :
    runs (l.take (k + 1)) = { runs (l.take k) with names := (runs (l.take k)).names ++ [(l.getD k B0).name], nums := (runs (l.take k)).nums ++ [(rk (l.getD k B0).expr (runs (l.take k)).names (runs (l.take k)).nums).1] } := by rw [runs_take hk, step_let h h1 h2]
theorem runs_say {l : List Bl} {k : Nat} (hk : k < l.length) (h : (runs (l.take k)).ok = true) (h0 : ¬ (l.getD k B0).kind = 0) (h1 : ¬ (l.getD k B0).kind = 1) (h2 : (both (l.getD k B0) (runs (l.take k)).names (runs (l.take k)).nums).2.2 = true) (h3 : (l.getD k B0).kind = 2 ∨ ¬ (rk (l.getD k B0).expr (runs (l.take k)).names (runs (l.take k)).nums).1 = 0) :
    runs (l.take (k + 1)) = { runs (l.take k) with said := (runs (l.take k)).said ++ [(both (l.getD k B0) (runs (l.take k)).names (runs (l.take k)).nums).2.1] } := by rw [runs_take hk, step_say' h h0 h1 h2 h3]
theorem runs_mute {l : List Bl} {k : Nat} (hk : k < l.length) (h : (runs (l.take k)).ok = true) (h0 : ¬ (l.getD k B0).kind = 0) (h1 : ¬ (l.getD k B0).kind = 1) (h2 : (both (l.getD k B0) (runs (l.take k)).names (runs (l.take k)).nums).2.2 = true) (h3 : ¬ (l.getD k B0).kind = 2) (h4 : (rk (l.getD k B0).expr (runs (l.take k)).names (runs (l.take k)).nums).1 = 0) :
    runs (l.take (k + 1)) = runs (l.take k) := by rw [runs_take hk, step_mute h h0 h1 h2 h3 h4]
theorem brun_stop {l : List Bl} {k : Nat} (hl : lok l = true) (hk : k < l.length) (h : (runs (l.take k)).ok = true) (h0 : ¬ (l.getD k B0).kind = 0) (h2 : (both (l.getD k B0) (runs (l.take k)).names (runs (l.take k)).nums).2.2 = false) : brun l = ((runs (l.take k)).said, false) := by
  have e := runs_take hk
  rw [step_stop h h0 h2] at e
  have e2 := runs_stop (l := l) (k := k + 1) (by omega) (by rw [e])
  unfold brun; rw [if_pos hl, e2, e]
theorem brun_end {l : List Bl} {k : Nat} (hl : lok l = true) (hk : l.length ≤ k) (h : (runs (l.take k)).ok = true) : brun l = ((runs (l.take k)).said, true) := by
  rw [List.take_of_length_le hk] at h ⊢
  unfold brun; rw [if_pos hl, h]
theorem brun_bad {l : List Bl} (h : lok l = false) : brun l = ([], false) := by unfold brun; rw [h]; rfl
theorem lok_eq (l : List Bl) : lok l = !(!(decide ((1 : Int) ≤ l.length) && decide ((l.length : Int) ≤ 16)) || l.any fun s => !bok s) := by
  rw [anyB]; simp only [lok, Bool.not_or, Bool.not_not, dec_cast]; rfl
theorem iBareRunO_a (l : List Bl) (hs : allB l = true) (hl : l.length < 4611686018427387904) : ACall En 39 [.sl false (bLR l)] [] [.ow 0 1 0 (brun l).1.length, .b (brun l).2] [⟨3, 1, inR (brun l).1⟩] := by
  have F1 : ∀ k, lok l = true → k < l.length → ¬ (l.getD k B0).kind = 0 → form (l.getD k B0).expr ((5 : Nat) : Int) = true := fun k h hk hk0 => eok_form (bok_expr ((lok_open h).2.2 k hk) hk0)
  have F2 : ∀ k, lok l = true → k < l.length → (l.getD k B0).kind = 3 → form (l.getD k B0).thn ((5 : Nat) : Int) = true := fun k h hk hk0 => eok_form (bok_thn ((lok_open h).2.2 k hk) hk0)
  refine acall_of_body (fn := Tryz.f39) [22] Tryz.func39 rfl rfl (by simp) fun C => ?_
  rw [entry_eq]
  simp only [Tryz.ntmps39, List.length_cons, List.length_nil, Nat.reduceAdd, Nat.reduceSub, List.replicate_succ, List.replicate_zero, List.cons_append, List.nil_append, numL]
  refine AWp.seq ?_
  refine AWp.rgn [] (by simp only [go_sem, seval, bLR_len, bLR_pure, inR_len, inR_pure, bC_eq]; rfl) ?_ ?_
  · (first | trivial | (simp; done))
  refine AWp.seq ?_
  refine AWp.seq ?_
  refine AWp.rgn [call0 (in_a l.length 1 16), call0 (containsBl_a l hs hl)] (by simp only [go_sem, seval, bLR_len, bLR_pure, inR_len, inR_pure, bC_eq]; rfl) ?_ ?_
  · (first | trivial | (simp; done))
  refine AWp.condB (by simp only [go_sem, seval, bLR_len, bLR_pure, inR_len, inR_pure, bC_eq]; rfl) (by simp only [go_sem, seval, bLR_len, bLR_pure, inR_len, inR_pure, bC_eq]) (fun h19 => ?_) (fun h19 => ?_)
  · refine AWp.seq ?_
    refine AWp.rgn [] (by simp only [go_sem, seval, bLR_len, bLR_pure, inR_len, inR_pure, bC_eq]; rfl) ?_ ?_
    · (first | trivial | (simp; done))
    refine AWp.can (Can.ownSlot 2 22 3 1 (by simp only [go_sem, seval, bLR_len, bLR_pure, inR_len, inR_pure, bC_eq] <;> rfl) (by simp only [go_sem, seval, bLR_len, bLR_pure, inR_len, inR_pure, bC_eq]) (by simp only [go_sem, seval, bLR_len, bLR_pure, inR_len, inR_pure, bC_eq] <;> rfl)) ?_
    refine AWp.ret (And.intro (.inr rfl) ?_)
    exact Out.mem' (by simp only [Tryz.results39]; rfl) (by simp only [resCs, resC, go_sem, seval, bLR_len, bLR_pure, inR_len, inR_pure, bC_eq]) (by simp only [resV, rns, rn, go_sem, seval, bLR_len, bLR_pure, inR_len, inR_pure, bC_eq] <;> (rw [brun_bad (by rw [lok_eq, h19]; rfl)]; try simp)) (by simp) rfl (by decide) (by simp only [go_sem, seval, bLR_len, bLR_pure, inR_len, inR_pure, bC_eq]) (by simp only [clrs, go_sem, seval, bLR_len, bLR_pure, inR_len, inR_pure, bC_eq]) (by simp only [memEq, go_sem, seval, bLR_len, bLR_pure, inR_len, inR_pure, bC_eq] <;> (rw [brun_bad (by rw [lok_eq, h19]; rfl)]; simp [inR]))
  · refine AWp.skip ?_
    refine AWp.seq ?_
    refine AWp.rgn [] (by simp only [go_sem, seval, bLR_len, bLR_pure, inR_len, inR_pure, bC_eq]; rfl) ?_ ?_
    · (first | trivial | (simp; done))
    refine AWp.seq ?_
    refine AWp.rgn [] (by simp only [go_sem, seval, bLR_len, bLR_pure, inR_len, inR_pure, bC_eq]; rfl) ?_ ?_
    · (first | trivial | (simp; done))
    refine AWp.seq ?_
    refine AWp.seq ?_
    refine AWp.rgn [] (by simp only [go_sem, seval, bLR_len, bLR_pure, inR_len, inR_pure, bC_eq]; rfl) ?_ ?_
    · (first | trivial | (simp; done))
    refine AWp.block ?_
    refine AWp.loopK (fun k : Nat => ⟨[.sl false (bLR l), .no, .no, .no, .ow 20 1 0 (runs (l.take k)).names.length, .ow 21 1 0 (runs (l.take k)).nums.length, .ow 22 1 0 (runs (l.take k)).said.length, .no, .no, .no, .no, .no, .no, .no, .no, .no, .no, .no, .no, .no, .sl false (bLR l), .i .i64 l.length, .i .i64 k, .no, .no, .no, .no, .no, .no, .no, .no, .no, .no, .no, .no, .no, .no, .no, .no, .no, .no, .no, .no, .no, .no, .no, .no, .no, .no, .no, .no, .no, .no, .no, .no, .no, .no, .no, .no, .no, .no, .no, .no, .no, .no, .no, .no, .no, .no, .no, .no, .no, .no, .no, .no, .no, .no, .no, .no, .no, .no, .no], memOf [(20, ⟨9, 1, strR (runs (l.take k)).names⟩), (21, ⟨3, 1, inR (runs (l.take k)).nums⟩), (22, ⟨3, 1, inR (runs (l.take k)).said⟩)], us [20, 21, 22]⟩) (fun k : Nat => k ≤ l.length ∧ (runs (l.take k)).ok = true ∧ lok l = true) (fun k : Nat => l.length - k) (0) ?_ ?_ (fun k hI => ?_)
    · exact ⟨Nat.zero_le _, by simp [runs], by rw [lok_eq, h19]; rfl⟩
    · refine Can.trans (Can.ownSlot 4 20 9 1 (by simp only [go_sem, seval, bLR_len, bLR_pure, inR_len, inR_pure, bC_eq] <;> rfl) (by simp only [go_sem, seval, bLR_len, bLR_pure, inR_len, inR_pure, bC_eq]) (by simp only [go_sem, seval, bLR_len, bLR_pure, inR_len, inR_pure, bC_eq] <;> rfl)) ?_
      refine Can.trans (Can.ownSlot 5 21 3 1 (by simp only [go_sem, seval, bLR_len, bLR_pure, inR_len, inR_pure, bC_eq] <;> rfl) (by simp only [go_sem, seval, bLR_len, bLR_pure, inR_len, inR_pure, bC_eq]) (by simp only [go_sem, seval, bLR_len, bLR_pure, inR_len, inR_pure, bC_eq] <;> rfl)) ?_
      refine Can.trans (Can.ownSlot 6 22 3 1 (by simp only [go_sem, seval, bLR_len, bLR_pure, inR_len, inR_pure, bC_eq] <;> rfl) (by simp only [go_sem, seval, bLR_len, bLR_pure, inR_len, inR_pure, bC_eq]) (by simp only [go_sem, seval, bLR_len, bLR_pure, inR_len, inR_pure, bC_eq] <;> rfl)) ?_
      exact Can.weak (Weak.lit (by simp only [go_sem, seval, bLR_len, bLR_pure, inR_len, inR_pure, bC_eq, subM, leV, inns, innr, V.inn, us, true_or, or_true] <;> (simp [runs])) (by simp only [go_sem, seval, bLR_len, bLR_pure, inR_len, inR_pure, bC_eq, subM, leV, inns, innr, V.inn, us, true_or, or_true]) (by simp only [go_sem, seval, bLR_len, bLR_pure, inR_len, inR_pure, bC_eq, subM, leV, inns, innr, V.inn, us, true_or, or_true] <;> (simp [runs, strR, inR])))
    refine AWp.seq ?_
    refine AWp.rgn [] (by simp only [go_sem, seval, bLR_len, bLR_pure, inR_len, inR_pure, bC_eq]; rfl) ?_ ?_
    · (first | trivial | (simp; done))
    refine AWp.seq ?_
    refine AWp.condB (by simp only [go_sem, seval, bLR_len, bLR_pure, inR_len, inR_pure, bC_eq]; rfl) (by simp only [go_sem, seval, bLR_len, bLR_pure, inR_len, inR_pure, bC_eq]) (fun h23 => ?_) (fun h23 => ?_)
    · refine AWp.skip ?_
      refine AWp.seq ?_
      refine AWp.block ?_
      refine AWp.seq ?_
      refine AWp.rgn [] (by simp only [go_sem, seval, bLR_len, bLR_pure, inR_len, inR_pure, bC_eq, bLR_get (show k < l.length by simpa using h23), bC_eq]; rfl) ?_ ?_
      · simp at h23; simp; omega
      refine AWp.seq ?_
      refine AWp.seq ?_
      refine AWp.rgn [] (by simp only [go_sem, seval, bLR_len, bLR_pure, inR_len, inR_pure, bC_eq]; rfl) ?_ ?_
      · (first | trivial | (simp; done))
      refine AWp.condB (by simp only [go_sem, seval, bLR_len, bLR_pure, inR_len, inR_pure, bC_eq]; rfl) (by simp only [go_sem, seval, bLR_len, bLR_pure, inR_len, inR_pure, bC_eq]) (fun h28 => ?_) (fun h28 => ?_)
      · refine AWp.exit ?_
        refine AWp.rgn [] (by simp only [go_sem, seval, bLR_len, bLR_pure, inR_len, inR_pure, bC_eq]; rfl) ?_ ?_
        · (first | trivial | (simp; done))
        refine Exists.intro (k + 1) ⟨?_, ?_, ?_⟩
        · have hk : k < l.length := (by simpa using h23); have e := runs_none hk (by simpa using h28); exact ⟨by omega, by rw [e]; exact hI.2.1, hI.2.2⟩
        · simp at h23; omega
        exact Can.weak (Weak.lit (by simp only [go_sem, seval, bLR_len, bLR_pure, inR_len, inR_pure, bC_eq, subM, leV, inns, innr, V.inn, us, true_or, or_true] <;> ((have hk : k < l.length := (by simpa using h23)); (have e := runs_none hk (by simpa using h28)); rw [e, wrap64 (by omega) (by omega)]; simp)) (by simp only [go_sem, seval, bLR_len, bLR_pure, inR_len, inR_pure, bC_eq, subM, leV, inns, innr, V.inn, us, true_or, or_true]) (by simp only [go_sem, seval, bLR_len, bLR_pure, inR_len, inR_pure, bC_eq, subM, leV, inns, innr, V.inn, us, true_or, or_true] <;> ((have hk : k < l.length := (by simpa using h23)); (have e := runs_none hk (by simpa using h28)); rw [e]; simp)))
      · refine AWp.skip ?_
        refine AWp.seq ?_
        refine AWp.rgn [callB (reckon_a 5 (l.getD k B0).expr (runs (l.take k)).names (runs (l.take k)).nums (F1 k hI.2.2 (by simpa using h23) (by simpa using h28)) (runs_lt hI.1 (lok_open hI.2.2).2.1).1 (by have := (runs_lt hI.1 (lok_open hI.2.2).2.1).2.1; omega))] (by simp only [go_sem, seval, bLR_len, bLR_pure, inR_len, inR_pure, bC_eq]; rfl) ?_ ?_
        · (first | (simp [List.take_of_length_le, strR_len, inR_len, ler_refl]; done))
        refine AWp.seq ?_
        refine AWp.rgn [] (by simp only [go_sem, seval, bLR_len, bLR_pure, inR_len, inR_pure, bC_eq]; rfl) ?_ ?_
        · (first | trivial | (simp; done))
        refine AWp.seqJ (fun q : Int × Bool => ⟨[.sl false (bLR l), .no, .no, .no, .ow 20 1 0 (runs (l.take k)).names.length, .ow 21 1 0 (runs (l.take k)).nums.length, .ow 22 1 0 (runs (l.take k)).said.length, .no, .pt 18 10 0 0, .i .i64 (rk (l.getD k B0).expr (runs (l.take k)).names (runs (l.take k)).nums).1, .b q.2, .i .i64 q.1, .no, .no, .no, .no, .no, .no, .no, .no, .sl false (bLR l), .i .i64 l.length, .i .i64 k, .no, .no, .no, .no, .no, .no, .no, .no, .no, .no, .no, .no, .no, .no, .no, .no, .no, .no, .no, .no, .no, .no, .no, .no, .no, .no, .no, .no, .no, .no, .no, .no, .no, .no, .no, .no, .no, .no, .no, .no, .no, .no, .no, .no, .no, .no, .no, .no, .no, .no, .no, .no, .no, .no, .no, .no, .no, .no, .no], memOf [(18, ⟨64, 10, [bC (l.getD k B0)]⟩), (20, ⟨9, 1, strR (runs (l.take k)).names⟩), (21, ⟨3, 1, inR (runs (l.take k)).nums⟩), (22, ⟨3, 1, inR (runs (l.take k)).said⟩)], us [20, 21, 22, 18]⟩) (fun q : Int × Bool => q = ((both (l.getD k B0) (runs (l.take k)).names (runs (l.take k)).nums).2.1, (both (l.getD k B0) (runs (l.take k)).names (runs (l.take k)).nums).2.2)) ?_ (fun q hJ => ?_)
        · refine AWp.seq ?_
          refine AWp.rgn [] (by simp only [go_sem, seval, bLR_len, bLR_pure, inR_len, inR_pure, bC_eq]; rfl) ?_ ?_
          · (first | trivial | (simp; done))
          refine AWp.condB (by simp only [go_sem, seval, bLR_len, bLR_pure, inR_len, inR_pure, bC_eq]; rfl) (by simp only [go_sem, seval, bLR_len, bLR_pure, inR_len, inR_pure, bC_eq]) (fun h43 => ?_) (fun h43 => ?_)
          · refine AWp.rgn [callB (reckon_a 5 (l.getD k B0).thn (runs (l.take k)).names (runs (l.take k)).nums (F2 k hI.2.2 (by simpa using h23) (by simp at h43; exact h43.2)) (runs_lt hI.1 (lok_open hI.2.2).2.1).1 (by have := (runs_lt hI.1 (lok_open hI.2.2).2.1).2.1; omega))] (by simp only [go_sem, seval, bLR_len, bLR_pure, inR_len, inR_pure, bC_eq]; rfl) ?_ ?_
            · (first | (simp [List.take_of_length_le, strR_len, inR_len, ler_refl]; done))
            refine Exists.intro (((rk (l.getD k B0).thn (runs (l.take k)).names (runs (l.take k)).nums).1, (rk (l.getD k B0).thn (runs (l.take k)).names (runs (l.take k)).nums).2)) ⟨?_, ?_⟩
            · unfold both; first | (rw [if_pos (by simp at h43 ⊢; exact h43)]; done) | (rw [if_neg (by simp at h43 ⊢; exact h43)]; done)
            exact Can.weak (Weak.lit (by simp only [go_sem, seval, bLR_len, bLR_pure, inR_len, inR_pure, bC_eq, subM, leV, inns, innr, V.inn, us, true_or, or_true]) (by simp only [go_sem, seval, bLR_len, bLR_pure, inR_len, inR_pure, bC_eq, subM, leV, inns, innr, V.inn, us, true_or, or_true]) (by simp only [go_sem, seval, bLR_len, bLR_pure, inR_len, inR_pure, bC_eq, subM, leV, inns, innr, V.inn, us, true_or, or_true]))
          · refine AWp.skip ?_
            refine Exists.intro (((rk (l.getD k B0).expr (runs (l.take k)).names (runs (l.take k)).nums).1, (rk (l.getD k B0).expr (runs (l.take k)).names (runs (l.take k)).nums).2)) ⟨?_, ?_⟩
            · unfold both; first | (rw [if_pos (by simp at h43 ⊢; exact h43)]; done) | (rw [if_neg (by simp at h43 ⊢; exact h43)]; done)
            exact Can.weak (Weak.lit (by simp only [go_sem, seval, bLR_len, bLR_pure, inR_len, inR_pure, bC_eq, subM, leV, inns, innr, V.inn, us, true_or, or_true]) (by simp only [go_sem, seval, bLR_len, bLR_pure, inR_len, inR_pure, bC_eq, subM, leV, inns, innr, V.inn, us, true_or, or_true]) (by simp only [go_sem, seval, bLR_len, bLR_pure, inR_len, inR_pure, bC_eq, subM, leV, inns, innr, V.inn, us, true_or, or_true]))
        refine AWp.seq ?_
        refine AWp.seq ?_
        refine AWp.rgn [] (by simp only [go_sem, seval, bLR_len, bLR_pure, inR_len, inR_pure, bC_eq]; rfl) ?_ ?_
        · (first | trivial | (simp; done))
        refine AWp.condB (by simp only [go_sem, seval, bLR_len, bLR_pure, inR_len, inR_pure, bC_eq]; rfl) (by simp only [go_sem, seval, bLR_len, bLR_pure, inR_len, inR_pure, bC_eq]) (fun h53 => ?_) (fun h53 => ?_)
        · refine AWp.seq ?_
          refine AWp.rgn [callN [22] [] (ClipInt_a (runs (l.take k)).said (runs (l.take k)).said.length rfl (by have := (runs_lt hI.1 (lok_open hI.2.2).2.1).2.2; omega))] (by simp only [go_sem, seval, bLR_len, bLR_pure, inR_len, inR_pure, bC_eq]; rfl) ?_ ?_
          · (first | trivial | (simp; done))
          refine AWp.ret (And.intro (.inr rfl) ?_)
          exact Out.mem' (by simp only [Tryz.results39]; rfl) (by simp only [resCs, resC, go_sem, seval, bLR_len, bLR_pure, inR_len, inR_pure, bC_eq]) (by simp only [resV, rns, rn, go_sem, seval, bLR_len, bLR_pure, inR_len, inR_pure, bC_eq] <;> (rw [brun_stop hI.2.2 (by simpa using h23) hI.2.1 (by simpa using h28) (by rw [hJ] at h53; simpa using h53)]; try simp)) (by simp) rfl (by decide) (by simp only [go_sem, seval, bLR_len, bLR_pure, inR_len, inR_pure, bC_eq]) (by simp only [clrs, go_sem, seval, bLR_len, bLR_pure, inR_len, inR_pure, bC_eq]) (by simp only [memEq, go_sem, seval, bLR_len, bLR_pure, inR_len, inR_pure, bC_eq] <;> (rw [brun_stop hI.2.2 (by simpa using h23) hI.2.1 (by simpa using h28) (by rw [hJ] at h53; simpa using h53)]; (try simp [rnr_pure, inR_pure])))
        · refine AWp.skip ?_
          refine AWp.seq ?_
          refine AWp.rgn [] (by simp only [go_sem, seval, bLR_len, bLR_pure, inR_len, inR_pure, bC_eq]; rfl) ?_ ?_
          · (first | trivial | (simp; done))
          refine AWp.condB (by simp only [go_sem, seval, bLR_len, bLR_pure, inR_len, inR_pure, bC_eq]; rfl) (by simp only [go_sem, seval, bLR_len, bLR_pure, inR_len, inR_pure, bC_eq]) (fun h58 => ?_) (fun h58 => ?_)
          · refine AWp.rgn [] (by simp only [go_sem, seval, bLR_len, bLR_pure, inR_len, inR_pure, bC_eq]; rfl) ?_ ?_
            · have := runs_lt hI.1 (lok_open hI.2.2).2.1; simp; omega
            refine AWp.rgn [] (by simp only [go_sem, seval, bLR_len, bLR_pure, inR_len, inR_pure, bC_eq]; rfl) ?_ ?_
            · (first | trivial | (simp; done))
            refine Exists.intro (k + 1) ⟨?_, ?_, ?_⟩
            · have hk : k < l.length := (by simpa using h23); have e := runs_let hk hI.2.1 (by simpa using h58) (by rw [hJ] at h53; simpa using h53); exact ⟨by omega, by rw [e]; exact hI.2.1, hI.2.2⟩
            · simp at h23; omega
            refine Can.trans (Can.swap 73 20 (by decide) (by decide) (by decide) (by decide) (by simp only [go_sem, seval, bLR_len, bLR_pure, inR_len, inR_pure, bC_eq, V.cl]) (by simp only [go_sem, seval, bLR_len, bLR_pure, inR_len, inR_pure, bC_eq, V.cl]) (by simp only [go_sem, seval, bLR_len, bLR_pure, inR_len, inR_pure, bC_eq, swL_get, sw, swM, rnB] <;> rfl) (by simp only [go_sem, seval, bLR_len, bLR_pure, inR_len, inR_pure, bC_eq, swL_get, sw, swM, rnB] <;> rfl) (by simp only [go_sem, seval, bLR_len, bLR_pure, inR_len, inR_pure, bC_eq, swL_get, sw, swM, rnB] <;> rfl)) ?_
            refine Can.trans (Can.swap 77 21 (by decide) (by decide) (by decide) (by decide) (by simp only [go_sem, seval, bLR_len, bLR_pure, inR_len, inR_pure, bC_eq, V.cl]) (by simp only [go_sem, seval, bLR_len, bLR_pure, inR_len, inR_pure, bC_eq, V.cl]) (by simp only [go_sem, seval, bLR_len, bLR_pure, inR_len, inR_pure, bC_eq, swL_get, sw, swM, rnB] <;> rfl) (by simp only [go_sem, seval, bLR_len, bLR_pure, inR_len, inR_pure, bC_eq, swL_get, sw, swM, rnB] <;> rfl) (by simp only [go_sem, seval, bLR_len, bLR_pure, inR_len, inR_pure, bC_eq, swL_get, sw, swM, rnB] <;> rfl)) ?_
            exact Can.weak (Weak.lit (by simp only [go_sem, seval, bLR_len, bLR_pure, inR_len, inR_pure, bC_eq, subM, leV, inns, innr, V.inn, us, true_or, or_true] <;> ((have hk : k < l.length := (by simpa using h23)); (have e := runs_let hk hI.2.1 (by simpa using h58) (by rw [hJ] at h53; simpa using h53)); rw [e, wrap64 (by omega) (by omega)]; simp)) (by simp only [go_sem, seval, bLR_len, bLR_pure, inR_len, inR_pure, bC_eq, subM, leV, inns, innr, V.inn, us, true_or, or_true]) (by simp only [go_sem, seval, bLR_len, bLR_pure, inR_len, inR_pure, bC_eq, subM, leV, inns, innr, V.inn, us, true_or, or_true] <;> ((have hk : k < l.length := (by simpa using h23)); (have e := runs_let hk hI.2.1 (by simpa using h58) (by rw [hJ] at h53; simpa using h53)); rw [e]; simp [strR_snoc1, inR_snoc1])))
          · refine AWp.seq ?_
            refine AWp.rgn [] (by simp only [go_sem, seval, bLR_len, bLR_pure, inR_len, inR_pure, bC_eq]; rfl) ?_ ?_
            · (first | trivial | (simp; done))
            refine AWp.condB (by simp only [go_sem, seval, bLR_len, bLR_pure, inR_len, inR_pure, bC_eq]; rfl) (by simp only [go_sem, seval, bLR_len, bLR_pure, inR_len, inR_pure, bC_eq]) (fun h74 => ?_) (fun h74 => ?_)
            · refine AWp.rgn [] (by simp only [go_sem, seval, bLR_len, bLR_pure, inR_len, inR_pure, bC_eq]; rfl) ?_ ?_
              · have := runs_lt hI.1 (lok_open hI.2.2).2.1; simp; omega
              refine AWp.rgn [] (by simp only [go_sem, seval, bLR_len, bLR_pure, inR_len, inR_pure, bC_eq]; rfl) ?_ ?_
              · (first | trivial | (simp; done))
              refine Exists.intro (k + 1) ⟨?_, ?_, ?_⟩
              · have hk : k < l.length := (by simpa using h23); have e := runs_say hk hI.2.1 (by simpa using h28) (by simpa using h58) (by rw [hJ] at h53; simpa using h53) (by simp at h74; exact h74); exact ⟨by omega, by rw [e]; exact hI.2.1, hI.2.2⟩
              · simp at h23; omega
              refine Can.trans (Can.swap 88 22 (by decide) (by decide) (by decide) (by decide) (by simp only [go_sem, seval, bLR_len, bLR_pure, inR_len, inR_pure, bC_eq, V.cl]) (by simp only [go_sem, seval, bLR_len, bLR_pure, inR_len, inR_pure, bC_eq, V.cl]) (by simp only [go_sem, seval, bLR_len, bLR_pure, inR_len, inR_pure, bC_eq, swL_get, sw, swM, rnB] <;> rfl) (by simp only [go_sem, seval, bLR_len, bLR_pure, inR_len, inR_pure, bC_eq, swL_get, sw, swM, rnB] <;> rfl) (by simp only [go_sem, seval, bLR_len, bLR_pure, inR_len, inR_pure, bC_eq, swL_get, sw, swM, rnB] <;> rfl)) ?_
              exact Can.weak (Weak.lit (by simp only [go_sem, seval, bLR_len, bLR_pure, inR_len, inR_pure, bC_eq, subM, leV, inns, innr, V.inn, us, true_or, or_true] <;> ((have hk : k < l.length := (by simpa using h23)); (have e := runs_say hk hI.2.1 (by simpa using h28) (by simpa using h58) (by rw [hJ] at h53; simpa using h53) (by simp at h74; exact h74)); rw [e, wrap64 (by omega) (by omega)]; simp)) (by simp only [go_sem, seval, bLR_len, bLR_pure, inR_len, inR_pure, bC_eq, subM, leV, inns, innr, V.inn, us, true_or, or_true]) (by simp only [go_sem, seval, bLR_len, bLR_pure, inR_len, inR_pure, bC_eq, subM, leV, inns, innr, V.inn, us, true_or, or_true] <;> ((have hk : k < l.length := (by simpa using h23)); (have e := runs_say hk hI.2.1 (by simpa using h28) (by simpa using h58) (by rw [hJ] at h53; simpa using h53) (by simp at h74; exact h74)); rw [e]; simp [inR_snoc1, hJ])))
            · refine AWp.skip ?_
              refine AWp.rgn [] (by simp only [go_sem, seval, bLR_len, bLR_pure, inR_len, inR_pure, bC_eq]; rfl) ?_ ?_
              · (first | trivial | (simp; done))
              refine Exists.intro (k + 1) ⟨?_, ?_, ?_⟩
              · have hk : k < l.length := (by simpa using h23); have e := runs_mute hk hI.2.1 (by simpa using h28) (by simpa using h58) (by rw [hJ] at h53; simpa using h53) (by simp at h74; exact h74.1) (by simp at h74; exact h74.2); exact ⟨by omega, by rw [e]; exact hI.2.1, hI.2.2⟩
              · simp at h23; omega
              exact Can.weak (Weak.lit (by simp only [go_sem, seval, bLR_len, bLR_pure, inR_len, inR_pure, bC_eq, subM, leV, inns, innr, V.inn, us, true_or, or_true] <;> ((have hk : k < l.length := (by simpa using h23)); (have e := runs_mute hk hI.2.1 (by simpa using h28) (by simpa using h58) (by rw [hJ] at h53; simpa using h53) (by simp at h74; exact h74.1) (by simp at h74; exact h74.2)); rw [e, wrap64 (by omega) (by omega)]; simp)) (by simp only [go_sem, seval, bLR_len, bLR_pure, inR_len, inR_pure, bC_eq, subM, leV, inns, innr, V.inn, us, true_or, or_true]) (by simp only [go_sem, seval, bLR_len, bLR_pure, inR_len, inR_pure, bC_eq, subM, leV, inns, innr, V.inn, us, true_or, or_true] <;> ((have hk : k < l.length := (by simpa using h23)); (have e := runs_mute hk hI.2.1 (by simpa using h28) (by simpa using h58) (by rw [hJ] at h53; simpa using h53) (by simp at h74; exact h74.1) (by simp at h74; exact h74.2)); rw [e]; simp)))
    · refine AWp.exit ?_
      refine AWp.seq ?_
      refine AWp.rgn [callN [22] [] (ClipInt_a (runs (l.take k)).said (runs (l.take k)).said.length rfl (by have := (runs_lt hI.1 (lok_open hI.2.2).2.1).2.2; omega))] (by simp only [go_sem, seval, bLR_len, bLR_pure, inR_len, inR_pure, bC_eq]; rfl) ?_ ?_
      · (first | trivial | (simp; done))
      refine AWp.ret (And.intro (.inr rfl) ?_)
      exact Out.mem' (by simp only [Tryz.results39]; rfl) (by simp only [resCs, resC, go_sem, seval, bLR_len, bLR_pure, inR_len, inR_pure, bC_eq]) (by simp only [resV, rns, rn, go_sem, seval, bLR_len, bLR_pure, inR_len, inR_pure, bC_eq] <;> (rw [brun_end hI.2.2 (by simpa using h23) hI.2.1]; try simp)) (by simp) rfl (by decide) (by simp only [go_sem, seval, bLR_len, bLR_pure, inR_len, inR_pure, bC_eq]) (by simp only [clrs, go_sem, seval, bLR_len, bLR_pure, inR_len, inR_pure, bC_eq]) (by simp only [memEq, go_sem, seval, bLR_len, bLR_pure, inR_len, inR_pure, bC_eq] <;> (rw [brun_end hI.2.2 (by simpa using h23) hI.2.1]; (try simp [rnr_pure, inR_pure])))
end

section
set_option maxRecDepth 100000
set_option maxHeartbeats 4000000

def toSl (b : Bl) : Sl := ⟨b.kind, b.name, [], b.expr, b.thn⟩
theorem tSlE (b : Bl) : (toSl b).kind = b.kind ∧ (toSl b).name = b.name ∧ (toSl b).type = [] ∧ (toSl b).expr = b.expr ∧ (toSl b).thn = b.thn := ⟨rfl, rfl, rfl, rfl, rfl⟩
theorem inE (l : List Int) : (inR l).length = l.length ∧ purer (inR l) = true := ⟨inR_len l, inR_pure l⟩
theorem toSl_get {l : List Bl} {k : Nat} (h : k < l.length) : (sR (l.map toSl)).getD k [] = sC (toSl (l.getD k B0)) := by
  simp [sR, List.getD_eq_getElem?_getD, List.getElem?_eq_getElem h]
theorem toSl_len (l : List Bl) : (sR (l.map toSl)).length = l.length := by simp [sR]
theorem l7Ok_a (l : List Bl) (hs : allB l = true) (hl : l.length < 4611686018427387904) : ACall En 131 [.sl false (bLR l)] [] [.b (lok l)] [] := by
  refine acall_of_body (fn := Tryz.f131) [] Tryz.func131 rfl rfl (by simp) fun C => ?_
  rw [entry_eq]
  simp only [Tryz.ntmps131, List.length_cons, List.length_nil, Nat.reduceAdd, Nat.reduceSub, List.replicate_succ, List.replicate_zero, List.cons_append, List.nil_append, numL]
  refine AWp.seq ?_
  refine AWp.rgn [] (by simp only [go_sem, seval, bLR_len, bLR_pure, bC_eq]; rfl) ?_ ?_
  · (first | trivial | (simp; done))
  refine AWp.seq ?_
  refine AWp.seq ?_
  refine AWp.rgn [] (by simp only [go_sem, seval, bLR_len, bLR_pure, bC_eq]; rfl) ?_ ?_
  · (first | trivial | (simp; done))
  refine AWp.block ?_
  refine AWp.loopK (fun k : Nat => ⟨[.sl false (bLR l), .no, .no, .i .i64 k, .no, .no, .no, .no, .no, .no, .no, .no, .no, .no, .no, .no, .no, .no, .no, .no, .no, .no, .no, .no], memOf [], us []⟩) (fun k : Nat => k ≤ l.length ∧ (l.take k).any (fun s => !bok s) = false) (fun k : Nat => l.length - k) (0) ?_ ?_ (fun k hI => ?_)
  · simp
  · exact Can.weak (Weak.lit (by simp only [go_sem, seval, bLR_len, bLR_pure, bC_eq, subM, leV, inns, innr, V.inn, us, true_or, or_true] <;> (simp)) (by simp only [go_sem, seval, bLR_len, bLR_pure, bC_eq, subM, leV, inns, innr, V.inn, us, true_or, or_true]) (by simp only [go_sem, seval, bLR_len, bLR_pure, bC_eq, subM, leV, inns, innr, V.inn, us, true_or, or_true]))
  refine AWp.seq ?_
  refine AWp.seq ?_
  refine AWp.rgn [] (by simp only [go_sem, seval, bLR_len, bLR_pure, bC_eq]; rfl) ?_ ?_
  · (first | trivial | (simp; done))
  refine AWp.condB (by simp only [go_sem, seval, bLR_len, bLR_pure, bC_eq]; rfl) (by simp only [go_sem, seval, bLR_len, bLR_pure, bC_eq]) (fun h7 => ?_) (fun h7 => ?_)
  · refine AWp.skip ?_
    refine AWp.seq ?_
    refine AWp.block ?_
    refine AWp.seq ?_
    refine AWp.rgn [callI (k < l.length) (fun h => sBareOk_a (l.getD k B0) (allB_at hs h))] (by simp only [go_sem, seval, bLR_len, bLR_pure, bC_eq, bLR_get (show k < l.length by simpa using h7)]; rfl) ?_ ?_
    · simp only [decide_eq_true_eq] at h7; simp; omega
    refine AWp.condB (by simp only [go_sem, seval, bLR_len, bLR_pure, bC_eq]; rfl) (by simp only [go_sem, seval, bLR_len, bLR_pure, bC_eq]) (fun h15 => ?_) (fun h15 => ?_)
    · refine AWp.seq ?_
      refine AWp.rgn [] (by simp only [go_sem, seval, bLR_len, bLR_pure, bC_eq]; rfl) ?_ ?_
      · (first | trivial | (simp; done))
      refine AWp.ret (And.intro (.inr rfl) ?_)
      exact Out.plain (by simp only [Tryz.results131]; rfl) (by simp only [resCs, resC, go_sem, seval, bLR_len, bLR_pure, bC_eq] <;> (split <;> rfl)) (by simp only [resV, go_sem, seval, bLR_len, bLR_pure, bC_eq] <;> (simp only [decide_eq_true_eq] at h7; have : l.all bok = false := (by rw [List.all_eq_false]; exact ⟨_, getD_mem (d := B0) (show k < l.length by omega), by simpa using h15⟩); simp [lok, this])) (by simp only [go_sem, seval, bLR_len, bLR_pure, bC_eq])
    · refine AWp.skip ?_
      refine AWp.rgn [] (by simp only [go_sem, seval, bLR_len, bLR_pure, bC_eq]; rfl) ?_ ?_
      · (first | trivial | (simp; done))
      refine Exists.intro (k + 1) ⟨?_, ?_, ?_⟩
      · simp at h7; refine ⟨by omega, ?_⟩; rw [any_take (d := B0) h7, hI.2, h15]; rfl
      · simp at h7; omega
      exact Can.weak (Weak.lit (by simp only [go_sem, seval, bLR_len, bLR_pure, bC_eq, subM, leV, inns, innr, V.inn, us, true_or, or_true] <;> (rw [wrap64 (by omega) (by omega)]; simp)) (by simp only [go_sem, seval, bLR_len, bLR_pure, bC_eq, subM, leV, inns, innr, V.inn, us, true_or, or_true]) (by simp only [go_sem, seval, bLR_len, bLR_pure, bC_eq, subM, leV, inns, innr, V.inn, us, true_or, or_true]))
  · refine AWp.exit ?_
    refine AWp.seq ?_
    refine AWp.rgn [] (by simp only [go_sem, seval, bLR_len, bLR_pure, bC_eq]; rfl) ?_ ?_
    · (first | trivial | (simp; done))
    refine AWp.ret (And.intro (.inr rfl) ?_)
    exact Out.plain (by simp only [Tryz.results131]; rfl) (by simp only [resCs, resC, go_sem, seval, bLR_len, bLR_pure, bC_eq] <;> (split <;> rfl)) (by simp only [resV, go_sem, seval, bLR_len, bLR_pure, bC_eq] <;> (simp only [decide_eq_false_iff_not] at h7; have h0 := hI.2; rw [List.take_of_length_le (by omega), anyB] at h0; simp only [Bool.not_eq_false'] at h0; simp only [lok, h0, Bool.and_true, dec_cast, ge_iff_le]; rfl)) (by simp only [go_sem, seval, bLR_len, bLR_pure, bC_eq])
def bothS (b : Bl) (N : List Str) (M : List Int) : Int := if (rk b.expr N M).2 = true ∧ b.kind = 3 then (rk b.thn N M).1 else 0
theorem l6Both_a (b : Bl) (N : List Str) (M : List Int) (h : form b.expr ((5 : Nat) : Int) = true) (h2 : b.kind = 3 → form b.thn ((5 : Nat) : Int) = true) (hl : N.length = M.length) (hn : N.length ≤ 1000000) :
    ACall En 98 [.ag (sC (toSl b)), .sl false (strR N), .sl false (inR M)] [] [.i .i64 (rk b.expr N M).1, .i .i64 (bothS b N M), .b (both b N M).2.2] [] := by
  refine acall_of_body (fn := Tryz.f98) [] Tryz.func98 rfl rfl (by simp) fun C => ?_
  rw [entry_eq]
  simp only [Tryz.ntmps98, List.length_cons, List.length_nil, Nat.reduceAdd, Nat.reduceSub, List.replicate_succ, List.replicate_zero, List.cons_append, List.nil_append, numL]
  refine AWp.seq ?_
  refine AWp.rgn [] (by simp only [go_sem, seval, inE, sC_eq, tSlE]; rfl) ?_ ?_
  · (first | trivial | (simp; done))
  refine AWp.seq ?_
  refine AWp.rgn [call0 (sOf_a 5 b.expr N M h hl hn)] (by simp only [go_sem, seval, inE, sC_eq, tSlE]; rfl) ?_ ?_
  · (first | trivial | (simp; done))
  refine AWp.seq ?_
  refine AWp.seq ?_
  refine AWp.rgn [] (by simp only [go_sem, seval, inE, sC_eq, tSlE]; rfl) ?_ ?_
  · (first | trivial | (simp; done))
  refine AWp.condB (by simp only [go_sem, seval, inE, sC_eq, tSlE]; rfl) (by simp only [go_sem, seval, inE, sC_eq, tSlE]) (fun h27 => ?_) (fun h27 => ?_)
  · refine AWp.seq ?_
    refine AWp.rgn [] (by simp only [go_sem, seval, inE, sC_eq, tSlE]; rfl) ?_ ?_
    · (first | trivial | (simp; done))
    refine AWp.ret (And.intro (.inr rfl) ?_)
    exact Out.plain (by simp only [Tryz.results98]; rfl) (by simp only [resCs, resC, go_sem, seval, inE, sC_eq, tSlE] <;> (split <;> rfl)) (by simp only [resV, go_sem, seval, inE, sC_eq, tSlE] <;> (unfold both bothS; simp at h27; (by_cases hk : b.kind = 3 <;> simp_all))) (by simp only [go_sem, seval, inE, sC_eq, tSlE])
  · refine AWp.skip ?_
    refine AWp.seq ?_
    refine AWp.rgn [call0 (sOf_a 5 b.thn N M (h2 (by simp at h27; exact h27.1)) hl hn)] (by simp only [go_sem, seval, inE, sC_eq, tSlE]; rfl) ?_ ?_
    · (first | trivial | (simp; done))
    refine AWp.seq ?_
    refine AWp.rgn [] (by simp only [go_sem, seval, inE, sC_eq, tSlE]; rfl) ?_ ?_
    · (first | trivial | (simp; done))
    refine AWp.ret (And.intro (.inr rfl) ?_)
    exact Out.plain (by simp only [Tryz.results98]; rfl) (by simp only [resCs, resC, go_sem, seval, inE, sC_eq, tSlE] <;> (split <;> rfl)) (by simp only [resV, go_sem, seval, inE, sC_eq, tSlE] <;> (unfold both bothS; simp at h27; simp [h27])) (by simp only [go_sem, seval, inE, sC_eq, tSlE])
theorem bothS_when {b : Bl} {N : List Str} {M : List Int} (k : b.kind = 3) (h : (both b N M).2.2 = true) : (both b N M).2.1 = bothS b N M := by
  unfold both bothS at *
  by_cases hk : (rk b.expr N M).2 = true ∧ b.kind = 3
  · rw [if_pos hk, if_pos hk]
  · rw [if_neg hk] at h
    exact absurd ⟨h, k⟩ hk
theorem both_say {b : Bl} {N : List Str} {M : List Int} (k : b.kind = 2) : (both b N M).2.1 = (rk b.expr N M).1 := by
  unfold both; rw [if_neg (by omega)]
theorem l7RunO_a (l : List Bl) (hs : lok l = true) : ACall En 132 [.sl false (sR (l.map toSl))] [] [.ow 0 1 0 (brun l).1.length, .b (brun l).2] [⟨3, 1, inR (brun l).1⟩] := by
  have hb := (lok_open hs).2.1
  have F1 : ∀ k, k < l.length → ¬ (l.getD k B0).kind = 0 → form (l.getD k B0).expr ((5 : Nat) : Int) = true := fun k hk hk0 => eok_form (bok_expr ((lok_open hs).2.2 k hk) hk0)
  have F2 : ∀ k, k < l.length → (l.getD k B0).kind = 3 → form (l.getD k B0).thn ((5 : Nat) : Int) = true := fun k hk hk0 => eok_form (bok_thn ((lok_open hs).2.2 k hk) hk0)
  have F3 : ∀ k, k < l.length → ¬ (l.getD k B0).kind = 0 → ¬ (l.getD k B0).kind = 1 → ¬ (l.getD k B0).kind = 2 → (l.getD k B0).kind = 3 := fun k hk a b c => by have := bok_kind ((lok_open hs).2.2 k hk); omega
  refine acall_of_body (fn := Tryz.f132) [22] Tryz.func132 rfl rfl (by simp) fun C => ?_
  rw [entry_eq]
  simp only [Tryz.ntmps132, List.length_cons, List.length_nil, Nat.reduceAdd, Nat.reduceSub, List.replicate_succ, List.replicate_zero, List.cons_append, List.nil_append, numL]
  refine AWp.seq ?_
  refine AWp.rgn [] (by simp only [go_sem, seval, toSl_len, sR_pure, inE, sC_eq, tSlE]; rfl) ?_ ?_
  · (first | trivial | (simp; done))
  refine AWp.seq ?_
  refine AWp.rgn [] (by simp only [go_sem, seval, toSl_len, sR_pure, inE, sC_eq, tSlE]; rfl) ?_ ?_
  · (first | trivial | (simp; done))
  refine AWp.seq ?_
  refine AWp.rgn [] (by simp only [go_sem, seval, toSl_len, sR_pure, inE, sC_eq, tSlE]; rfl) ?_ ?_
  · (first | trivial | (simp; done))
  refine AWp.seq ?_
  refine AWp.rgn [] (by simp only [go_sem, seval, toSl_len, sR_pure, inE, sC_eq, tSlE]; rfl) ?_ ?_
  · (first | trivial | (simp; done))
  refine AWp.seq ?_
  refine AWp.seq ?_
  refine AWp.rgn [] (by simp only [go_sem, seval, toSl_len, sR_pure, inE, sC_eq, tSlE]; rfl) ?_ ?_
  · (first | trivial | (simp; done))
  refine AWp.block ?_
  refine AWp.loopK (fun k : Nat => ⟨[.sl false (sR (l.map toSl)), .no, .no, .no, .ow 22 1 0 (runs (l.take k)).said.length, .ow 20 1 0 (runs (l.take k)).names.length, .ow 21 1 0 (runs (l.take k)).nums.length, .i .i64 k, .no, .no, .no, .no, .no, .no, .no, .no, .no, .no, .no, .no, .no, .no, .no, .no, .no, .no, .no, .no, .no, .no, .no, .no, .no, .no, .no, .no, .no, .no, .no, .no, .no, .no, .no, .no, .no, .no, .no, .no, .no, .no, .no, .no, .no, .no, .no, .no, .no, .no, .no, .no, .no, .no, .no, .no, .no, .no, .no, .no, .no, .no, .no, .no, .no, .no, .no, .no, .no, .no, .no], memOf [(20, ⟨9, 1, strR (runs (l.take k)).names⟩), (21, ⟨3, 1, inR (runs (l.take k)).nums⟩), (22, ⟨3, 1, inR (runs (l.take k)).said⟩)], us [20, 21, 22]⟩) (fun k : Nat => k ≤ l.length ∧ (runs (l.take k)).ok = true) (fun k : Nat => l.length - k) (0) ?_ ?_ (fun k hI => ?_)
  · exact ⟨Nat.zero_le _, by simp [runs]⟩
  · refine Can.trans (Can.ownSlot 5 20 9 1 (by simp only [go_sem, seval, toSl_len, sR_pure, inE, sC_eq, tSlE] <;> rfl) (by simp only [go_sem, seval, toSl_len, sR_pure, inE, sC_eq, tSlE]) (by simp only [go_sem, seval, toSl_len, sR_pure, inE, sC_eq, tSlE] <;> rfl)) ?_
    refine Can.trans (Can.ownSlot 6 21 3 1 (by simp only [go_sem, seval, toSl_len, sR_pure, inE, sC_eq, tSlE] <;> rfl) (by simp only [go_sem, seval, toSl_len, sR_pure, inE, sC_eq, tSlE]) (by simp only [go_sem, seval, toSl_len, sR_pure, inE, sC_eq, tSlE] <;> rfl)) ?_
    refine Can.trans (Can.ownSlot 4 22 3 1 (by simp only [go_sem, seval, toSl_len, sR_pure, inE, sC_eq, tSlE] <;> rfl) (by simp only [go_sem, seval, toSl_len, sR_pure, inE, sC_eq, tSlE]) (by simp only [go_sem, seval, toSl_len, sR_pure, inE, sC_eq, tSlE] <;> rfl)) ?_
    exact Can.weak (Weak.lit (by simp only [go_sem, seval, toSl_len, sR_pure, inE, sC_eq, tSlE, subM, leV, inns, innr, V.inn, us, true_or, or_true] <;> (simp [runs])) (by simp only [go_sem, seval, toSl_len, sR_pure, inE, sC_eq, tSlE, subM, leV, inns, innr, V.inn, us, true_or, or_true]) (by simp only [go_sem, seval, toSl_len, sR_pure, inE, sC_eq, tSlE, subM, leV, inns, innr, V.inn, us, true_or, or_true] <;> (simp [runs, strR, inR])))
  refine AWp.seq ?_
  refine AWp.seq ?_
  refine AWp.rgn [] (by simp only [go_sem, seval, toSl_len, sR_pure, inE, sC_eq, tSlE]; rfl) ?_ ?_
  · (first | trivial | (simp; done))
  refine AWp.condB (by simp only [go_sem, seval, toSl_len, sR_pure, inE, sC_eq, tSlE]; rfl) (by simp only [go_sem, seval, toSl_len, sR_pure, inE, sC_eq, tSlE]) (fun h17 => ?_) (fun h17 => ?_)
  · refine AWp.skip ?_
    refine AWp.seq ?_
    refine AWp.block ?_
    refine AWp.seq ?_
    refine AWp.seq ?_
    refine AWp.rgn [] (by simp only [go_sem, seval, toSl_len, sR_pure, inE, sC_eq, tSlE, toSl_get (show k < l.length by simpa using h17)]; rfl) ?_ ?_
    · simp at h17; simp; omega
    refine AWp.condB (by simp only [go_sem, seval, toSl_len, sR_pure, inE, sC_eq, tSlE]; rfl) (by simp only [go_sem, seval, toSl_len, sR_pure, inE, sC_eq, tSlE]) (fun h25 => ?_) (fun h25 => ?_)
    · refine AWp.exit ?_
      refine AWp.rgn [] (by simp only [go_sem, seval, toSl_len, sR_pure, inE, sC_eq, tSlE]; rfl) ?_ ?_
      · (first | trivial | (simp; done))
      refine Exists.intro (k + 1) ⟨?_, ?_, ?_⟩
      · have hk : k < l.length := (by simpa using h17); have e := runs_none hk (by simpa using h25); exact ⟨by omega, by rw [e]; exact hI.2⟩
      · simp at h17; omega
      exact Can.weak (Weak.lit (by simp only [go_sem, seval, toSl_len, sR_pure, inE, sC_eq, tSlE, subM, leV, inns, innr, V.inn, us, true_or, or_true] <;> ((have hk : k < l.length := (by simpa using h17)); (have e := runs_none hk (by simpa using h25)); rw [e, wrap64 (by omega) (by omega)]; simp)) (by simp only [go_sem, seval, toSl_len, sR_pure, inE, sC_eq, tSlE, subM, leV, inns, innr, V.inn, us, true_or, or_true]) (by simp only [go_sem, seval, toSl_len, sR_pure, inE, sC_eq, tSlE, subM, leV, inns, innr, V.inn, us, true_or, or_true] <;> ((have hk : k < l.length := (by simpa using h17)); (have e := runs_none hk (by simpa using h25)); rw [e]; simp)))
    · refine AWp.skip ?_
      refine AWp.seq ?_
      refine AWp.rgn [callB (l6Both_a (l.getD k B0) (runs (l.take k)).names (runs (l.take k)).nums (F1 k (by simpa using h17) (by simpa using h25)) (F2 k (by simpa using h17)) (runs_lt hI.1 hb).1 (by have := (runs_lt hI.1 hb).2.1; omega))] (by simp only [go_sem, seval, toSl_len, sR_pure, inE, sC_eq, tSlE, toSl_get (show k < l.length by simpa using h17)]; rfl) ?_ ?_
      · simp at h17; simp [List.take_of_length_le, strR_len, inR_len, ler_refl]; omega
      refine AWp.block ?_
      refine AWp.seq ?_
      refine AWp.rgn [] (by simp only [go_sem, seval, toSl_len, sR_pure, inE, sC_eq, tSlE]; rfl) ?_ ?_
      · (first | trivial | (simp; done))
      refine AWp.condB (by simp only [go_sem, seval, toSl_len, sR_pure, inE, sC_eq, tSlE]; rfl) (by simp only [go_sem, seval, toSl_len, sR_pure, inE, sC_eq, tSlE]) (fun h37 => ?_) (fun h37 => ?_)
      · refine AWp.seq ?_
        refine AWp.rgn [] (by simp only [go_sem, seval, toSl_len, sR_pure, inE, sC_eq, tSlE]; rfl) ?_ ?_
        · (first | trivial | (simp; done))
        refine AWp.ret (And.intro (.inr rfl) ?_)
        exact Out.mem' (by simp only [Tryz.results132]; rfl) (by simp only [resCs, resC, go_sem, seval, toSl_len, sR_pure, inE, sC_eq, tSlE]) (by simp only [resV, rns, rn, go_sem, seval, toSl_len, sR_pure, inE, sC_eq, tSlE] <;> (rw [brun_stop hs (by simpa using h17) hI.2 (by simpa using h25) (by simpa using h37)]; try simp)) (by simp) rfl (by decide) (by simp only [go_sem, seval, toSl_len, sR_pure, inE, sC_eq, tSlE]) (by simp only [clrs, go_sem, seval, toSl_len, sR_pure, inE, sC_eq, tSlE]) (by simp only [memEq, go_sem, seval, toSl_len, sR_pure, inE, sC_eq, tSlE] <;> (rw [brun_stop hs (by simpa using h17) hI.2 (by simpa using h25) (by simpa using h37)]; (try simp [rnr_pure, inR_pure])))
      · refine AWp.seq ?_
        refine AWp.rgn [] (by simp only [go_sem, seval, toSl_len, sR_pure, inE, sC_eq, tSlE, toSl_get (show k < l.length by simpa using h17)]; rfl) ?_ ?_
        · simp at h17; simp; omega
        refine AWp.condB (by simp only [go_sem, seval, toSl_len, sR_pure, inE, sC_eq, tSlE]; rfl) (by simp only [go_sem, seval, toSl_len, sR_pure, inE, sC_eq, tSlE]) (fun h41 => ?_) (fun h41 => ?_)
        · refine AWp.seq ?_
          refine AWp.rgn [] (by simp only [go_sem, seval, toSl_len, sR_pure, inE, sC_eq, tSlE, toSl_get (show k < l.length by simpa using h17)]; rfl) ?_ ?_
          · have := runs_lt hI.1 hb; simp at h17; simp; omega
          refine AWp.rgn [] (by simp only [go_sem, seval, toSl_len, sR_pure, inE, sC_eq, tSlE]; rfl) ?_ ?_
          · have := runs_lt hI.1 hb; simp; omega
          refine AWp.rgn [] (by simp only [go_sem, seval, toSl_len, sR_pure, inE, sC_eq, tSlE]; rfl) ?_ ?_
          · (first | trivial | (simp; done))
          refine Exists.intro (k + 1) ⟨?_, ?_, ?_⟩
          · have hk : k < l.length := (by simpa using h17); have e := runs_let hk hI.2 (by simpa using h41) (by simpa using h37); exact ⟨by omega, by rw [e]; exact hI.2⟩
          · simp at h17; omega
          refine Can.trans (Can.swap 65 20 (by decide) (by decide) (by decide) (by decide) (by simp only [go_sem, seval, toSl_len, sR_pure, inE, sC_eq, tSlE, V.cl]) (by simp only [go_sem, seval, toSl_len, sR_pure, inE, sC_eq, tSlE, V.cl]) (by simp only [go_sem, seval, toSl_len, sR_pure, inE, sC_eq, tSlE, swL_get, sw, swM, rnB] <;> rfl) (by simp only [go_sem, seval, toSl_len, sR_pure, inE, sC_eq, tSlE, swL_get, sw, swM, rnB] <;> rfl) (by simp only [go_sem, seval, toSl_len, sR_pure, inE, sC_eq, tSlE, swL_get, sw, swM, rnB] <;> rfl)) ?_
          refine Can.trans (Can.swap 69 21 (by decide) (by decide) (by decide) (by decide) (by simp only [go_sem, seval, toSl_len, sR_pure, inE, sC_eq, tSlE, V.cl]) (by simp only [go_sem, seval, toSl_len, sR_pure, inE, sC_eq, tSlE, V.cl]) (by simp only [go_sem, seval, toSl_len, sR_pure, inE, sC_eq, tSlE, swL_get, sw, swM, rnB] <;> rfl) (by simp only [go_sem, seval, toSl_len, sR_pure, inE, sC_eq, tSlE, swL_get, sw, swM, rnB] <;> rfl) (by simp only [go_sem, seval, toSl_len, sR_pure, inE, sC_eq, tSlE, swL_get, sw, swM, rnB] <;> rfl)) ?_
          exact Can.weak (Weak.lit (by simp only [go_sem, seval, toSl_len, sR_pure, inE, sC_eq, tSlE, subM, leV, inns, innr, V.inn, us, true_or, or_true] <;> ((have hk : k < l.length := (by simpa using h17)); (have e := runs_let hk hI.2 (by simpa using h41) (by simpa using h37)); rw [e, wrap64 (by omega) (by omega)]; simp)) (by simp only [go_sem, seval, toSl_len, sR_pure, inE, sC_eq, tSlE, subM, leV, inns, innr, V.inn, us, true_or, or_true]) (by simp only [go_sem, seval, toSl_len, sR_pure, inE, sC_eq, tSlE, subM, leV, inns, innr, V.inn, us, true_or, or_true] <;> ((have hk : k < l.length := (by simpa using h17)); (have e := runs_let hk hI.2 (by simpa using h41) (by simpa using h37)); rw [e]; simp [strR_snoc1, inR_snoc1])))
        · refine AWp.seq ?_
          refine AWp.rgn [] (by simp only [go_sem, seval, toSl_len, sR_pure, inE, sC_eq, tSlE, toSl_get (show k < l.length by simpa using h17)]; rfl) ?_ ?_
          · simp at h17; simp; omega
          refine AWp.condB (by simp only [go_sem, seval, toSl_len, sR_pure, inE, sC_eq, tSlE]; rfl) (by simp only [go_sem, seval, toSl_len, sR_pure, inE, sC_eq, tSlE]) (fun h60 => ?_) (fun h60 => ?_)
          · refine AWp.rgn [] (by simp only [go_sem, seval, toSl_len, sR_pure, inE, sC_eq, tSlE]; rfl) ?_ ?_
            · have := runs_lt hI.1 hb; simp; omega
            refine AWp.rgn [] (by simp only [go_sem, seval, toSl_len, sR_pure, inE, sC_eq, tSlE]; rfl) ?_ ?_
            · (first | trivial | (simp; done))
            refine Exists.intro (k + 1) ⟨?_, ?_, ?_⟩
            · have hk : k < l.length := (by simpa using h17); have e := runs_say hk hI.2 (by simpa using h25) (by simpa using h41) (by simpa using h37) (.inl (by simpa using h60)); exact ⟨by omega, by rw [e]; exact hI.2⟩
            · simp at h17; omega
            refine Can.trans (Can.swap 80 22 (by decide) (by decide) (by decide) (by decide) (by simp only [go_sem, seval, toSl_len, sR_pure, inE, sC_eq, tSlE, V.cl]) (by simp only [go_sem, seval, toSl_len, sR_pure, inE, sC_eq, tSlE, V.cl]) (by simp only [go_sem, seval, toSl_len, sR_pure, inE, sC_eq, tSlE, swL_get, sw, swM, rnB] <;> rfl) (by simp only [go_sem, seval, toSl_len, sR_pure, inE, sC_eq, tSlE, swL_get, sw, swM, rnB] <;> rfl) (by simp only [go_sem, seval, toSl_len, sR_pure, inE, sC_eq, tSlE, swL_get, sw, swM, rnB] <;> rfl)) ?_
            exact Can.weak (Weak.lit (by simp only [go_sem, seval, toSl_len, sR_pure, inE, sC_eq, tSlE, subM, leV, inns, innr, V.inn, us, true_or, or_true] <;> ((have hk : k < l.length := (by simpa using h17)); (have e := runs_say hk hI.2 (by simpa using h25) (by simpa using h41) (by simpa using h37) (.inl (by simpa using h60))); rw [e, wrap64 (by omega) (by omega)]; simp)) (by simp only [go_sem, seval, toSl_len, sR_pure, inE, sC_eq, tSlE, subM, leV, inns, innr, V.inn, us, true_or, or_true]) (by simp only [go_sem, seval, toSl_len, sR_pure, inE, sC_eq, tSlE, subM, leV, inns, innr, V.inn, us, true_or, or_true] <;> ((have hk : k < l.length := (by simpa using h17)); (have e := runs_say hk hI.2 (by simpa using h25) (by simpa using h41) (by simpa using h37) (.inl (by simpa using h60))); rw [e, both_say (by simpa using h60)]; simp [inR_snoc1])))
          · refine AWp.seq ?_
            refine AWp.rgn [] (by simp only [go_sem, seval, toSl_len, sR_pure, inE, sC_eq, tSlE]; rfl) ?_ ?_
            · (first | trivial | (simp; done))
            refine AWp.condB (by simp only [go_sem, seval, toSl_len, sR_pure, inE, sC_eq, tSlE]; rfl) (by simp only [go_sem, seval, toSl_len, sR_pure, inE, sC_eq, tSlE]) (fun h71 => ?_) (fun h71 => ?_)
            · refine AWp.rgn [] (by simp only [go_sem, seval, toSl_len, sR_pure, inE, sC_eq, tSlE]; rfl) ?_ ?_
              · have := runs_lt hI.1 hb; simp; omega
              refine AWp.rgn [] (by simp only [go_sem, seval, toSl_len, sR_pure, inE, sC_eq, tSlE]; rfl) ?_ ?_
              · (first | trivial | (simp; done))
              refine Exists.intro (k + 1) ⟨?_, ?_, ?_⟩
              · have hk : k < l.length := (by simpa using h17); have e := runs_say hk hI.2 (by simpa using h25) (by simpa using h41) (by simpa using h37) (.inr (by simpa using h71)); exact ⟨by omega, by rw [e]; exact hI.2⟩
              · simp at h17; omega
              refine Can.trans (Can.swap 87 22 (by decide) (by decide) (by decide) (by decide) (by simp only [go_sem, seval, toSl_len, sR_pure, inE, sC_eq, tSlE, V.cl]) (by simp only [go_sem, seval, toSl_len, sR_pure, inE, sC_eq, tSlE, V.cl]) (by simp only [go_sem, seval, toSl_len, sR_pure, inE, sC_eq, tSlE, swL_get, sw, swM, rnB] <;> rfl) (by simp only [go_sem, seval, toSl_len, sR_pure, inE, sC_eq, tSlE, swL_get, sw, swM, rnB] <;> rfl) (by simp only [go_sem, seval, toSl_len, sR_pure, inE, sC_eq, tSlE, swL_get, sw, swM, rnB] <;> rfl)) ?_
              exact Can.weak (Weak.lit (by simp only [go_sem, seval, toSl_len, sR_pure, inE, sC_eq, tSlE, subM, leV, inns, innr, V.inn, us, true_or, or_true] <;> ((have hk : k < l.length := (by simpa using h17)); (have e := runs_say hk hI.2 (by simpa using h25) (by simpa using h41) (by simpa using h37) (.inr (by simpa using h71))); rw [e, wrap64 (by omega) (by omega)]; simp)) (by simp only [go_sem, seval, toSl_len, sR_pure, inE, sC_eq, tSlE, subM, leV, inns, innr, V.inn, us, true_or, or_true]) (by simp only [go_sem, seval, toSl_len, sR_pure, inE, sC_eq, tSlE, subM, leV, inns, innr, V.inn, us, true_or, or_true] <;> ((have hk : k < l.length := (by simpa using h17)); (have e := runs_say hk hI.2 (by simpa using h25) (by simpa using h41) (by simpa using h37) (.inr (by simpa using h71))); rw [e, bothS_when (F3 k hk (by simpa using h25) (by simpa using h41) (by simpa using h60)) (by simpa using h37)]; simp [inR_snoc1])))
            · refine AWp.skip ?_
              refine AWp.rgn [] (by simp only [go_sem, seval, toSl_len, sR_pure, inE, sC_eq, tSlE]; rfl) ?_ ?_
              · (first | trivial | (simp; done))
              refine Exists.intro (k + 1) ⟨?_, ?_, ?_⟩
              · have hk : k < l.length := (by simpa using h17); have e := runs_mute hk hI.2 (by simpa using h25) (by simpa using h41) (by simpa using h37) (by simpa using h60) (by simpa using h71); exact ⟨by omega, by rw [e]; exact hI.2⟩
              · simp at h17; omega
              exact Can.weak (Weak.lit (by simp only [go_sem, seval, toSl_len, sR_pure, inE, sC_eq, tSlE, subM, leV, inns, innr, V.inn, us, true_or, or_true] <;> ((have hk : k < l.length := (by simpa using h17)); (have e := runs_mute hk hI.2 (by simpa using h25) (by simpa using h41) (by simpa using h37) (by simpa using h60) (by simpa using h71)); rw [e, wrap64 (by omega) (by omega)]; simp)) (by simp only [go_sem, seval, toSl_len, sR_pure, inE, sC_eq, tSlE, subM, leV, inns, innr, V.inn, us, true_or, or_true]) (by simp only [go_sem, seval, toSl_len, sR_pure, inE, sC_eq, tSlE, subM, leV, inns, innr, V.inn, us, true_or, or_true] <;> ((have hk : k < l.length := (by simpa using h17)); (have e := runs_mute hk hI.2 (by simpa using h25) (by simpa using h41) (by simpa using h37) (by simpa using h60) (by simpa using h71)); rw [e]; simp)))
  · refine AWp.exit ?_
    refine AWp.seq ?_
    refine AWp.rgn [] (by simp only [go_sem, seval, toSl_len, sR_pure, inE, sC_eq, tSlE]; rfl) ?_ ?_
    · (first | trivial | (simp; done))
    refine AWp.ret (And.intro (.inr rfl) ?_)
    exact Out.mem' (by simp only [Tryz.results132]; rfl) (by simp only [resCs, resC, go_sem, seval, toSl_len, sR_pure, inE, sC_eq, tSlE]) (by simp only [resV, rns, rn, go_sem, seval, toSl_len, sR_pure, inE, sC_eq, tSlE] <;> (rw [brun_end hs (by simpa using h17) hI.2]; try simp)) (by simp) rfl (by decide) (by simp only [go_sem, seval, toSl_len, sR_pure, inE, sC_eq, tSlE]) (by simp only [clrs, go_sem, seval, toSl_len, sR_pure, inE, sC_eq, tSlE]) (by simp only [memEq, go_sem, seval, toSl_len, sR_pure, inE, sC_eq, tSlE] <;> (rw [brun_end hs (by simpa using h17) hI.2]; (try simp [rnr_pure, inR_pure])))
theorem sBareRunO_a (l : List Bl) (hs : allB l = true) (hl : l.length < 4611686018427387904) : ACall En 63 [.sl false (bLR l)] [] [.ow 0 1 0 (brun l).1.length, .b (brun l).2] [⟨3, 1, inR (brun l).1⟩] := by
  refine acall_of_body (fn := Tryz.f63) [33] Tryz.func63 rfl rfl (by simp) fun C => ?_
  rw [entry_eq]
  simp only [Tryz.ntmps63, List.length_cons, List.length_nil, Nat.reduceAdd, Nat.reduceSub, List.replicate_succ, List.replicate_zero, List.cons_append, List.nil_append, numL]
  refine AWp.seq ?_
  refine AWp.rgn [] (by simp only [go_sem, seval, bLR_len, bLR_pure, bC_eq, inR_pure, sR_pure, sC_eq, tSlE]; rfl) ?_ ?_
  · (first | trivial | (simp; done))
  refine AWp.seq ?_
  refine AWp.seq ?_
  refine AWp.rgn [call0 (l7Ok_a l hs hl)] (by simp only [go_sem, seval, bLR_len, bLR_pure, bC_eq, inR_pure, sR_pure, sC_eq, tSlE]; rfl) ?_ ?_
  · (first | trivial | (simp; done))
  refine AWp.condB (by simp only [go_sem, seval, bLR_len, bLR_pure, bC_eq, inR_pure, sR_pure, sC_eq, tSlE]; rfl) (by simp only [go_sem, seval, bLR_len, bLR_pure, bC_eq, inR_pure, sR_pure, sC_eq, tSlE]) (fun h9 => ?_) (fun h9 => ?_)
  · refine AWp.seq ?_
    refine AWp.rgn [] (by simp only [go_sem, seval, bLR_len, bLR_pure, bC_eq, inR_pure, sR_pure, sC_eq, tSlE]; rfl) ?_ ?_
    · (first | trivial | (simp; done))
    refine AWp.can (Can.ownSlot 2 33 3 1 (by simp only [go_sem, seval, bLR_len, bLR_pure, bC_eq, inR_pure, sR_pure, sC_eq, tSlE] <;> rfl) (by simp only [go_sem, seval, bLR_len, bLR_pure, bC_eq, inR_pure, sR_pure, sC_eq, tSlE]) (by simp only [go_sem, seval, bLR_len, bLR_pure, bC_eq, inR_pure, sR_pure, sC_eq, tSlE] <;> rfl)) ?_
    refine AWp.ret (And.intro (.inr rfl) ?_)
    exact Out.mem' (by simp only [Tryz.results63]; rfl) (by simp only [resCs, resC, go_sem, seval, bLR_len, bLR_pure, bC_eq, inR_pure, sR_pure, sC_eq, tSlE]) (by simp only [resV, rns, rn, go_sem, seval, bLR_len, bLR_pure, bC_eq, inR_pure, sR_pure, sC_eq, tSlE] <;> (rw [brun_bad (by simpa using h9)]; simp)) (by simp) rfl (by decide) (by simp only [go_sem, seval, bLR_len, bLR_pure, bC_eq, inR_pure, sR_pure, sC_eq, tSlE]) (by simp only [clrs, go_sem, seval, bLR_len, bLR_pure, bC_eq, inR_pure, sR_pure, sC_eq, tSlE]) (by simp only [memEq, go_sem, seval, bLR_len, bLR_pure, bC_eq, inR_pure, sR_pure, sC_eq, tSlE] <;> (rw [brun_bad (by simpa using h9)]; simp [inR]))
  · refine AWp.skip ?_
    refine AWp.seq ?_
    refine AWp.rgn [] (by simp only [go_sem, seval, bLR_len, bLR_pure, bC_eq, inR_pure, sR_pure, sC_eq, tSlE]; rfl) ?_ ?_
    · (first | trivial | (simp; done))
    refine AWp.seqJ (fun u : Unit => ⟨[.no, .no, .no, .no, .sl false (sR (l.map toSl)), .no, .no, .no, .no, .no, .no, .no, .no, .no, .no, .no, .no, .no, .no, .no, .no, .no, .no, .no, .no, .no, .no, .no, .no, .no, .no, .no, .no, .no, .no, .no, .no, .no], memOf [], us []⟩) (fun u : Unit => True) ?_ (fun u hJ => ?_)
    · refine AWp.seq ?_
      refine AWp.rgn [] (by simp only [go_sem, seval, bLR_len, bLR_pure, bC_eq, inR_pure, sR_pure, sC_eq, tSlE]; rfl) ?_ ?_
      · (first | trivial | (simp; done))
      refine AWp.block ?_
      refine AWp.loopK (fun k : Nat => ⟨[.sl false (bLR l), .no, .no, .no, .ow 60 11 0 k, .i .i64 k, .no, .no, .no, .no, .no, .no, .no, .no, .no, .no, .no, .no, .no, .no, .no, .no, .no, .no, .no, .no, .no, .no, .no, .no, .no, .no, .no, .no, .no, .no, .no, .no], memOf [(60, ⟨32, 11, sR ((l.map toSl).take k)⟩)], us [60]⟩) (fun k : Nat => k ≤ l.length) (fun k : Nat => l.length - k) (0) ?_ ?_ (fun k hI => ?_)
      · simp
      · refine Can.trans (Can.ownSlot 4 60 32 11 (by simp only [go_sem, seval, bLR_len, bLR_pure, bC_eq, inR_pure, sR_pure, sC_eq, tSlE] <;> rfl) (by simp only [go_sem, seval, bLR_len, bLR_pure, bC_eq, inR_pure, sR_pure, sC_eq, tSlE]) (by simp only [go_sem, seval, bLR_len, bLR_pure, bC_eq, inR_pure, sR_pure, sC_eq, tSlE] <;> rfl)) ?_
        exact Can.weak (Weak.lit (by simp only [go_sem, seval, bLR_len, bLR_pure, bC_eq, inR_pure, sR_pure, sC_eq, tSlE, subM, leV, inns, innr, V.inn, us, true_or, or_true] <;> (simp)) (by simp only [go_sem, seval, bLR_len, bLR_pure, bC_eq, inR_pure, sR_pure, sC_eq, tSlE, subM, leV, inns, innr, V.inn, us, true_or, or_true]) (by simp only [go_sem, seval, bLR_len, bLR_pure, bC_eq, inR_pure, sR_pure, sC_eq, tSlE, subM, leV, inns, innr, V.inn, us, true_or, or_true] <;> (simp [sR])))
      refine AWp.seq ?_
      refine AWp.seq ?_
      refine AWp.rgn [] (by simp only [go_sem, seval, bLR_len, bLR_pure, bC_eq, inR_pure, sR_pure, sC_eq, tSlE]; rfl) ?_ ?_
      · (first | trivial | (simp; done))
      refine AWp.condB (by simp only [go_sem, seval, bLR_len, bLR_pure, bC_eq, inR_pure, sR_pure, sC_eq, tSlE]; rfl) (by simp only [go_sem, seval, bLR_len, bLR_pure, bC_eq, inR_pure, sR_pure, sC_eq, tSlE]) (fun h15 => ?_) (fun h15 => ?_)
      · refine AWp.skip ?_
        refine AWp.seq ?_
        refine AWp.block ?_
        refine AWp.seq ?_
        refine AWp.rgn [] (by simp only [go_sem, seval, bLR_len, bLR_pure, bC_eq, inR_pure, sR_pure, sC_eq, tSlE, bLR_get (show k < l.length by simpa using h15)]; rfl) ?_ ?_
        · simp at h15; simp; omega
        refine AWp.rgn [] (by simp only [go_sem, seval, bLR_len, bLR_pure, bC_eq, inR_pure, sR_pure, sC_eq, tSlE]; rfl) ?_ ?_
        · have h9' : lok l = true := (by simpa using h9); have := (lok_open h9').2.1; simp [sR_rows, fsOk, sR_len]; omega
        refine AWp.rgn [] (by simp only [go_sem, seval, bLR_len, bLR_pure, bC_eq, inR_pure, sR_pure, sC_eq, tSlE]; rfl) ?_ ?_
        · (first | trivial | (simp; done))
        refine Exists.intro (k + 1) ⟨?_, ?_, ?_⟩
        · simp at h15; omega
        · simp at h15; omega
        refine Can.trans (Can.swap 43 60 (by decide) (by decide) (by decide) (by decide) (by simp only [go_sem, seval, bLR_len, bLR_pure, bC_eq, inR_pure, sR_pure, sC_eq, tSlE, V.cl]) (by simp only [go_sem, seval, bLR_len, bLR_pure, bC_eq, inR_pure, sR_pure, sC_eq, tSlE, V.cl]) (by simp only [go_sem, seval, bLR_len, bLR_pure, bC_eq, inR_pure, sR_pure, sC_eq, tSlE, swL_get, sw, swM, rnB] <;> rfl) (by simp only [go_sem, seval, bLR_len, bLR_pure, bC_eq, inR_pure, sR_pure, sC_eq, tSlE, swL_get, sw, swM, rnB] <;> rfl) (by simp only [go_sem, seval, bLR_len, bLR_pure, bC_eq, inR_pure, sR_pure, sC_eq, tSlE, swL_get, sw, swM, rnB] <;> rfl)) ?_
        exact Can.weak (Weak.lit (by simp only [go_sem, seval, bLR_len, bLR_pure, bC_eq, inR_pure, sR_pure, sC_eq, tSlE, subM, leV, inns, innr, V.inn, us, true_or, or_true] <;> (rw [wrap64 (by simp at h15; omega) (by simp at h15; omega)]; simp)) (by simp only [go_sem, seval, bLR_len, bLR_pure, bC_eq, inR_pure, sR_pure, sC_eq, tSlE, subM, leV, inns, innr, V.inn, us, true_or, or_true]) (by simp only [go_sem, seval, bLR_len, bLR_pure, bC_eq, inR_pure, sR_pure, sC_eq, tSlE, subM, leV, inns, innr, V.inn, us, true_or, or_true] <;> ((have hk : k < l.length := (by simpa using h15)); rw [List.take_add_one, sR_app]; simp [sR, List.getElem?_eq_getElem hk, sC_eq, tSlE, List.getD_eq_getElem?_getD])))
      · refine AWp.exit ?_
        refine Exists.intro (()) ⟨?_, ?_⟩
        · trivial
        refine Can.trans (Can.frz 60 (by simp only [go_sem, seval, bLR_len, bLR_pure, bC_eq, inR_pure, sR_pure, sC_eq, tSlE] <;> rfl) (by simp only [go_sem, seval, bLR_len, bLR_pure, bC_eq, inR_pure, sR_pure, sC_eq, tSlE]) (by simp only [go_sem, seval, bLR_len, bLR_pure, bC_eq, inR_pure, sR_pure, sC_eq, tSlE] <;> rfl) (by simp only [go_sem, seval, bLR_len, bLR_pure, bC_eq, inR_pure, sR_pure, sC_eq, tSlE] <;> rfl)) ?_
        exact Can.weak (Weak.lit (by simp only [go_sem, seval, bLR_len, bLR_pure, bC_eq, inR_pure, sR_pure, sC_eq, tSlE, subM, leV, inns, innr, V.inn, us, true_or, or_true] <;> (simp at h15; (obtain rfl : k = l.length := (by omega)); simp [List.take_of_length_le, toSl_len, sR_len, leV, ler_refl])) (by simp only [go_sem, seval, bLR_len, bLR_pure, bC_eq, inR_pure, sR_pure, sC_eq, tSlE, subM, leV, inns, innr, V.inn, us, true_or, or_true]) (by simp only [go_sem, seval, bLR_len, bLR_pure, bC_eq, inR_pure, sR_pure, sC_eq, tSlE, subM, leV, inns, innr, V.inn, us, true_or, or_true]))
    refine AWp.seq ?_
    refine AWp.rgn [callN [] [33] (l7RunO_a l (by simpa using h9))] (by simp only [go_sem, seval, bLR_len, bLR_pure, bC_eq, inR_pure, sR_pure, sC_eq, tSlE]; rfl) ?_ ?_
    · (first | trivial | (simp; done))
    refine AWp.ret (And.intro (.inr rfl) ?_)
    exact Out.mem' (by simp only [Tryz.results63]; rfl) (by simp only [resCs, resC, go_sem, seval, bLR_len, bLR_pure, bC_eq, inR_pure, sR_pure, sC_eq, tSlE]) (by simp only [resV, rns, rn, go_sem, seval, bLR_len, bLR_pure, bC_eq, inR_pure, sR_pure, sC_eq, tSlE] <;> (rfl)) (by simp) rfl (by decide) (by simp only [go_sem, seval, bLR_len, bLR_pure, bC_eq, inR_pure, sR_pure, sC_eq, tSlE]) (by simp only [clrs, go_sem, seval, bLR_len, bLR_pure, bC_eq, inR_pure, sR_pure, sC_eq, tSlE]) (by simp only [memEq, go_sem, seval, bLR_len, bLR_pure, bC_eq, inR_pure, sR_pure, sC_eq, tSlE] <;> (simp [rnr_pure, inR_pure]))
end
end Go.Proofs.YteihfmnmpdbkiaaGreatDoor
