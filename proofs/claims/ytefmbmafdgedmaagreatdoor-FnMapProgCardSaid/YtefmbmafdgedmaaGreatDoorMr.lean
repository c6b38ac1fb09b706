/- Plain laws: what lines come to. Conditions: none. -/
import Derived.Test.YtefmbmafdgedmaaGreatDoorMc
import Derived.RangeFuncBox
import Derived.RangeFuncLeaves
import Derived.Shelf.Abstract
import Derived.WalkKit
import Derived.OwnWalkIn
import Derived.TacticsInMore
import Derived.LoopNIn
import Derived.LoopIn
import Derived.Test.YtefmbmafdgedmaaGreatDoorMe
import Derived.Test.YtefmbmafdgedmaaGreatDoorMx
import Derived.Test.YtefmbmafdgedmaaGreatDoorMb
set_option linter.unusedVariables false
set_option linter.unusedSimpArgs false
namespace Go.Proofs.YtefmbmafdgedmaaGreatDoor
section
def cutI (n : Int) : Int := max (-1000000) (min 1000000 n)
def ac5_ (l : List Str) : Nat → Str → Int
 | 0, _ => -1
 | k + 1, s => if l.getD k [] = s then (k : Int) else ac5_ l k s
def ac8_ (l : List Str) (s : Str) : Int := ac5_ l l.length s
def twI (s : Str) (a b : Int) : Int := if s = [43] then cutI (a + b) else if s = [45] then cutI (a - b) else if s = [42] then cutI (a * b) else if a < b then 1 else 0
def two2 (s : Str) (x y : Int × Bool) : Int × Bool := if x.2 && y.2 then (twI s x.1 y.1, true) else (0, false)
mutual
def rk : E → List Str → List Int → Int × Bool
 | .mk k n s kids, N, M =>
  if k = 1 then (n, true)
  else if k = 2 then (if ac8_ N s < 0 then (0, false) else (cutI (M.getD (ac8_ N s).toNat 0), true))
  else if k = 4 then rkA kids N M
  else two2 s (rkA kids N M) (rkB kids N M)
def rkA : List E → List Str → List Int → Int × Bool
 | [], _, _ => (0, false)
 | e :: _, N, M => rk e N M
def rkB : List E → List Str → List Int → Int × Bool
 | [], _, _ => (0, false)
 | _ :: r, N, M => rkA r N M
end
def both (b : Bl) (N : List Str) (M : List Int) : Int × Int × Bool :=
 if (rk b.expr N M).2 = true ∧ b.kind = 3 then ((rk b.expr N M).1, (rk b.thn N M).1, (rk b.thn N M).2) else ((rk b.expr N M).1, (rk b.expr N M).1, (rk b.expr N M).2)
end
section
open Go.RowKit Go.Shelf
attribute [local go_sem] Oper.semAt_some
def fv_ {α : Type} (f : Nat → α) (n m : Nat) : List α := (((List.range n).drop m).reverse).map f
theorem oo_ {α : Type} (f : Nat → α) (n : Nat) : fv_ f n n = [] := by simp [fv_]
theorem l2_ {α : Type} (f : Nat → α) {n j : Nat} (h : j < n) : fv_ f n j = fv_ f n (j + 1) ++ [f j] := by
 unfold fv_
 rw [List.drop_eq_getElem_cons (by simpa using h)]
 simp
theorem vq_ {α : Type} (f : Nat → α) (n m : Nat) : (fv_ f n m).length = n - m := by simp [fv_]
theorem nt_ {α : Type} (f : Nat → α) {n m j : Nat} (h1 : m ≤ j) (h2 : j < n) : f j ∈ fv_ f n m := by
 simp only [fv_, List.mem_map, List.mem_reverse]
 refine ⟨j, List.mem_iff_getElem?.2 ⟨j - m, ?_⟩, rfl⟩
 rw [List.getElem?_drop, List.getElem?_range (by omega)]; congr 1; omega
abbrev strV (s : Str) : Value := .string ⟨s.toArray⟩
set_option maxRecDepth 100000 in
set_option maxHeartbeats 4000000 in
set_option maxRecDepth 100000 in
set_option maxHeartbeats 1000000 in
def StrsAt (n₀ : Nat) (W : World) (sv : Value) (zs : List Str) : Prop :=
 ∃ A cap, sv = .slice A zs.length cap ∧ (zs ≠ [] → ∃ b off, A = some ⟨b, off, none⟩ ∧ b < n₀ ∧ ∀ j, j < zs.length → W.cell? ⟨b, off + j, none⟩ = some (strV (zs.getD j [])))
theorem StrsAt.below {n₀ : Nat} {A B : World} (h : Below n₀ A B) {sv : Value} {zs : List Str} : StrsAt n₀ A sv zs → StrsAt n₀ B sv zs
 | ⟨a, cap, e, k⟩ => ⟨a, cap, e, fun hne => let ⟨b, off, e2, hb, hc⟩ := k hne; ⟨b, off, e2, hb, fun j hj => (h.cell (p := ⟨b, off + j, none⟩) hb).trans (hc j hj)⟩⟩
set_option maxRecDepth 100000 in
set_option maxHeartbeats 4000000 in
end
section
set_option maxRecDepth 100000
set_option maxHeartbeats 4000000
end
section
set_option maxRecDepth 100000
set_option maxHeartbeats 4000000
end
section
set_option maxRecDepth 100000
set_option maxHeartbeats 4000000
end
section
set_option maxRecDepth 100000
set_option maxHeartbeats 4000000
def s5_ (b : Str) (p : Int) (i : Nat) : Sl := ⟨1, ([[120], [121], [122]] : List Str).getD i [], wInt, .mk 1 (b9_ b (p + i) 9) [] [], E0⟩
def gd_ (b : Str) (p : Int) (k : Nat) : List Sl := (List.range k).map (s5_ b p)
theorem mq_ (b : Str) (p : Int) (k : Nat) : gd_ b p (k + 1) = gd_ b p k ++ [s5_ b p k] := by simp [gd_, List.range_succ]
theorem hk_ (b : Str) (p : Int) (k : Nat) : (gd_ b p k).length = k := by simp [gd_]
def cy_ (b : Str) : Nat → Int → List Sl × Int
 | 0, p => ([], p)
 | n + 1, p => ((cy_ b n p).1 ++ [(b6_ b (cy_ b n p).2).1], (b6_ b (cy_ b n p).2).2)
def okS (s : Sl) : Bool := d7_ s && wf s.expr && wf s.thn
theorem g2_ (b : Str) {p : Int} (hp : 0 ≤ p) (hp2 : p < 1000000) : ∀ n : Nat, n ≤ 1000 → p ≤ (cy_ b n p).2 ∧ (cy_ b n p).2 ≤ p + 300 * n ∧ (cy_ b n p).1.length = n ∧ (cy_ b n p).1.all okS = true
 | 0, _ => by simp [cy_]
 | n + 1, h => by
  obtain ⟨h1, h2, h3, h4⟩ := g2_ b hp hp2 n (by omega)
  obtain ⟨q1, q2, q3, q4, q5, _⟩ := lr_ b (p := (cy_ b n p).2) (by omega) (by omega)
  simp only [cy_, List.length_append, List.length_singleton, List.all_append, List.all_cons, List.all_nil, h4, okS, q3, q4, q5, Bool.and_self, Bool.and_true]
  refine ⟨by omega, by omega, by omega, trivial⟩
theorem abj_ (b : Str) {p : Int} (hp : 0 ≤ p) (hp2 : p < 1000000) (i : Nat) (hi : i < 3) : okS (s5_ b p i) = true := by
 have hk : i = 0 ∨ i = 1 ∨ i = 2 := by omega
 rcases hk with rfl | rfl | rfl <;> simp [okS, s5_, d7_, sm, sms, wf, wfs, wInt, E0]
theorem qq_ (b : Str) {p : Int} (hp : 0 ≤ p) (hp2 : p < 1000000) : ∀ k, k ≤ 3 → (gd_ b p k).all okS = true
 | 0, _ => rfl
 | k + 1, h => by rw [mq_, List.all_append, qq_ b hp hp2 k (by omega)]; simp [abj_ b hp hp2 k (by omega)]
def dPa (b : Str) (p : Int) : List Sl × Int := if 0 < b9_ b p 4 then (gd_ b (p + 1) 3, p + 4) else ([], p + 1)
def dPn (b : Str) (p : Int) : Nat := (1 + b9_ b (dPa b p).2 6).toNat
def d9_ (b : Str) (p : Int) : List Sl × Int := ((dPa b p).1 ++ (cy_ b (dPn b p) ((dPa b p).2 + 1)).1, (cy_ b (dPn b p) ((dPa b p).2 + 1)).2)
theorem zp_ (b : Str) {p : Int} (hp : 0 ≤ p) (hp2 : p < 100000) : p ≤ (dPa b p).2 ∧ (dPa b p).2 ≤ p + 4 ∧ (dPa b p).1.length ≤ 3 ∧ (dPa b p).1.all okS = true := by
 unfold dPa; split
 ·exact ⟨by dsimp only; omega, by dsimp only; omega, by simp [hk_], qq_ b (by omega) (by omega) 3 (by omega)⟩
 ·exact ⟨by dsimp only; omega, by dsimp only; omega, by simp, rfl⟩
theorem zc_ (b : Str) {p : Int} (hp : 0 ≤ p) (hp2 : p < 100000) : 1 ≤ dPn b p ∧ dPn b p ≤ 6 ∧ (dPn b p : Int) = 1 + b9_ b (dPa b p).2 6 := by
 have h := zp_ b hp hp2
 have := fj_ b (p := (dPa b p).2) (n := 6) (by omega) (by omega) (by omega)
 unfold dPn; omega
theorem t9_ (b : Str) {p : Int} (hp : 0 ≤ p) (hp2 : p < 100000) : p ≤ (d9_ b p).2 ∧ (d9_ b p).2 ≤ p + 2000 ∧ (d9_ b p).1.length ≤ 9 ∧ 1 ≤ (d9_ b p).1.length ∧ (d9_ b p).1.all okS = true := by
 obtain ⟨h1, h2, h3, h4⟩ := zp_ b hp hp2
 obtain ⟨n1, n2, n3⟩ := zc_ b hp hp2
 obtain ⟨q1, q2, q3, q4⟩ := g2_ b (p := (dPa b p).2 + 1) (by omega) (by omega) (dPn b p) (by omega)
 unfold d9_
 exact ⟨by dsimp only; omega, by dsimp only; omega, by simp only [List.length_append]; omega, by simp only [List.length_append]; omega, by simp only [List.all_append, h4, q4, Bool.and_self]⟩
theorem acm_ {k : Nat} (h : k < 3) : ([[V.s [120]], [V.s [121]], [V.s [122]]] : List (List V)).getD k [] = [.s (([[120], [121], [122]] : List Str).getD k [])] := by
 have hk : k = 0 ∨ k = 1 ∨ k = 2 := by omega
 rcases hk with rfl | rfl | rfl <;> rfl
theorem ab0_ (b : Str) (p : Int) (k : Nat) : sC (s5_ b p k) = [.i .i64 1, .s (([[120], [121], [122]] : List Str).getD k []), .s wInt, .i .i64 1, .i .i64 (b9_ b (p + k) 9), .s [], .sl false [], .i .i64 0, .i .i64 0, .s [], .sl false []] := by
 rw [ae_]; simp only [s5_, E.kind_mk, E.n_mk, E.s_mk, E.kids_mk, px_, o3_, ot_, fc_, gm_]
theorem acq_ (b : Str) (p : Int) (k : Nat) : sR (gd_ b p (k + 1)) = sR (gd_ b p k) ++ [sC (s5_ b p k)] := by rw [mq_, ia_]; rfl
theorem ax_ : ∀ (a : List (List V)) (r r' : List V), ler (a ++ [r]) (a ++ [r']) = les r r'
 | [], r, r' => by simp [ler]
 | x :: a, r, r' => by have := ax_ a r r'; simp [ler, dv_, this]
theorem a4_ (b : Str) (p : Int) : ∀ n : Nat, (cy_ b n p).1.length = n
 | 0 => rfl
 | n + 1 => by simp [cy_, a4_ b p n]
theorem io_ (s : Sl) : sR [s] = [sC s] := rfl
theorem ry_ (b : Str) (n : Nat) (p : Int) : cy_ b (n + 1) p = ((cy_ b n p).1 ++ [(b6_ b (cy_ b n p).2).1], (b6_ b (cy_ b n p).2).2) := rfl
theorem vr_ (b : Str) (p : Int) (hb : b.length ≤ 2000) (hp : 0 ≤ p) (hp2 : p < 100000) : ACall En 83 [.pt 0 2 0 0] [rdB b p] [.ow 1 11 0 (d9_ b p).1.length] [rdB b (d9_ b p).2, ⟨72, 11, sR (d9_ b p).1⟩] := by
 obtain ⟨h1, h2, h3, h4⟩ := zp_ b hp hp2
 obtain ⟨n1, n2, n3⟩ := zc_ b hp hp2
 have e1 : decide (b9_ b p 4 > 0) = true → dPa b p = (gd_ b (p + 1) 3, p + 4) := fun h => by unfold dPa; rw [if_pos (by simpa using h)]
 have e2 : decide (b9_ b p 4 > 0) = false → dPa b p = ([], p + 1) := fun h => by unfold dPa; rw [if_neg (by simpa using h)]
 have D := fun n (hn : n ≤ 6) => g2_ b (p := (dPa b p).2 + 1) (by omega) (by omega) n (by omega)
 refine ap_ (fn := Tryz.f83) [0, 60] Tryz.func83 rfl rfl (by simp) fun C => ?_
 rw [a0_]
 simp only [Tryz.ntmps83, List.length_cons, List.length_nil, Nat.reduceAdd, Nat.reduceSub, List.replicate_succ, List.replicate_zero, List.cons_append, List.nil_append, bq_]
 refine .seq (.rgn [] (by simp only [go_sem, seval, ax_, List.length_append, a4_, al_, ar_, am_, ai_, ae_, ak_, ah_]; rfl) ?_ ?_)
 ·first | trivial | simp
 refine .seq (.rgn [] (by simp only [go_sem, seval, ax_, List.length_append, a4_, al_, ar_, am_, ai_, ae_, ak_, ah_]; rfl) ?_ ?_)
 ·first | trivial | simp
 refine .seqJ (fun u : Unit => ⟨[.pt 0 2 0 0, .no, .no, .ow 60 11 0 (dPa b p).1.length, .no, .no, .no, .no, .no, .no, .no, .no, .no, .no, .no, .no, .no, .no, .no, .no, .no, .no, .no, .no, .no, .no, .no, .no, .no, .no, .no, .no, .no, .no, .no, .no, .no, .no], a6_ [(0, rdB b (dPa b p).2), (60, ⟨72, 11, sR (dPa b p).1⟩)], us [60]⟩) (fun u : Unit => True) ?_ (fun u hJ => ?_)
 ·refine .seq (.rgn [bv_ [0] [] (ec_ b p 4 hb hp (by omega))] (by simp only [go_sem, seval, ax_, List.length_append, a4_, al_, ar_, am_, ai_, ae_, ak_, ah_]; rfl) ?_ ?_)
  ·first | trivial | simp
  refine .condB (by simp only [go_sem, seval, ax_, List.length_append, a4_, al_, ar_, am_, ai_, ae_, ak_, ah_]; rfl) (by simp only [go_sem, seval, ax_, List.length_append, a4_, al_, ar_, am_, ai_, ae_, ak_, ah_]) (fun h9 => ?_) (fun h9 => ?_)
  ·refine .seq (.rgn [] (by simp only [go_sem, seval, ax_, List.length_append, a4_, al_, ar_, am_, ai_, ae_, ak_, ah_]; rfl) ?_ ?_)
   ·first | trivial | simp
   refine .block (.loopK (fun k : Nat => ⟨[.pt 0 2 0 0, .no, .no, .ow 60 11 0 k, .i .i64 k, .no, .no, .no, .no, .no, .no, .no, .no, .no, .no, .no, .no, .no, .no, .no, .no, .no, .no, .no, .no, .no, .no, .no, .no, .no, .no, .no, .no, .no, .no, .no, .no, .no], a6_ [(0, rdB b (p + 1 + k)), (60, ⟨72, 11, sR (gd_ b (p + 1) k)⟩)], us [60]⟩) (fun k : Nat => k ≤ 3) (fun k : Nat => 3 - k) (0) ?_ ?_ (fun k hI => ?_))
   ·simp
   ·refine Can.trans (Can.ownSlot 3 60 72 11 (by simp only [go_sem, seval, ax_, List.length_append, a4_, al_, ar_, am_, ai_, ae_, ak_, ah_] <;> rfl) (by simp only [go_sem, seval, ax_, List.length_append, a4_, al_, ar_, am_, ai_, ae_, ak_, ah_]) (by simp only [go_sem, seval, ax_, List.length_append, a4_, al_, ar_, am_, ai_, ae_, ak_, ah_] <;> rfl)) ?_
    exact Can.weak (Weak.lit (by simp only [go_sem, seval, ax_, List.length_append, a4_, al_, ar_, am_, ai_, ae_, ak_, ah_, aw_, leV, at_, au_, V.inn, us, true_or, or_true] <;> (simp)) (by simp only [go_sem, seval, ax_, List.length_append, a4_, al_, ar_, am_, ai_, ae_, ak_, ah_, aw_, leV, at_, au_, V.inn, us, true_or, or_true]) (by simp only [go_sem, seval, ax_, List.length_append, a4_, al_, ar_, am_, ai_, ae_, ak_, ah_, aw_, leV, at_, au_, V.inn, us, true_or, or_true] <;> (simp [gd_, sR])))
   refine .seq (.seq (.rgn [] (by simp only [go_sem, seval, ax_, List.length_append, a4_, al_, ar_, am_, ai_, ae_, ak_, ah_]; rfl) ?_ ?_))
   ·first | trivial | simp
   refine .condB (by simp only [go_sem, seval, ax_, List.length_append, a4_, al_, ar_, am_, ai_, ae_, ak_, ah_]; rfl) (by simp only [go_sem, seval, ax_, List.length_append, a4_, al_, ar_, am_, ai_, ae_, ak_, ah_]) (fun h11 => ?_) (fun h11 => ?_)
   ·refine .skip (.seq (.block (.rgnD [bv_ [0] [] (ec_ b (p + 1 + k) 9 hb (by omega) (by omega))] enM (by simp only [go_sem, seval, ax_, List.length_append, a4_, al_, ar_, am_, ai_, ae_, ak_, ah_, acm_ (show k < 3 by simp at h11; omega)]; rfl) (by rfl) ?_ ?_)))
    ·simp only [decide_eq_true_eq] at h11; simp [bt_, hk_]; omega
    refine .rgn [] (by simp only [go_sem, seval, ax_, List.length_append, a4_, al_, ar_, am_, ai_, ae_, ak_, ah_]; rfl) ?_ ?_
    ·first | trivial | simp
    refine Exists.intro (k + 1) ⟨?_, ?_, ?_⟩
    ·simp at h11; omega
    ·simp at h11; omega
    refine Can.trans (Can.swap 34 60 (by decide) (by decide) (by decide) (by decide) (by simp only [go_sem, seval, ax_, List.length_append, a4_, al_, ar_, am_, ai_, ae_, ak_, ah_, V.cl]) (by simp only [go_sem, seval, ax_, List.length_append, a4_, al_, ar_, am_, ai_, ae_, ak_, ah_, V.cl]) (by simp only [go_sem, seval, ax_, List.length_append, a4_, al_, ar_, am_, ai_, ae_, ak_, ah_, be_, sw, swM, rnB] <;> rfl) (by simp only [go_sem, seval, ax_, List.length_append, a4_, al_, ar_, am_, ai_, ae_, ak_, ah_, be_, sw, swM, rnB] <;> rfl) (by simp only [go_sem, seval, ax_, List.length_append, a4_, al_, ar_, am_, ai_, ae_, ak_, ah_, be_, sw, swM, rnB] <;> rfl)) ?_
    refine Can.trans (Can.leAt 60 (sR (gd_ b (p + 1) k) ++ [[.i .i64 1, .s (([[120], [121], [122]] : List Str).getD k []), .s [105, 110, 116], .i .i64 1, .i .i64 (b9_ b (p + 1 + k) 9), .s [], .sl false [], .i .i64 0, .i .i64 0, .s [], .sl false []]]) (by simp only [go_sem, seval, ax_, List.length_append, a4_, al_, ar_, am_, ai_, ae_, ak_, ah_] <;> rfl) (by simp only [go_sem, seval, ax_, List.length_append, a4_, al_, ar_, am_, ai_, ae_, ak_, ah_, ler, les, leV] <;> (first | trivial | simp)) (by simp only [go_sem, seval, ax_, List.length_append, a4_, al_, ar_, am_, ai_, ae_, ak_, ah_] <;> rfl)) ?_
    exact Can.weak (Weak.lit (by simp only [go_sem, seval, ax_, List.length_append, a4_, al_, ar_, am_, ai_, ae_, ak_, ah_, aw_, leV, at_, au_, V.inn, us, true_or, or_true] <;> (rw [a7_ (by omega) (by omega)]; simp)) (by simp only [go_sem, seval, ax_, List.length_append, a4_, al_, ar_, am_, ai_, ae_, ak_, ah_, aw_, leV, at_, au_, V.inn, us, true_or, or_true]) (by simp only [go_sem, seval, ax_, List.length_append, a4_, al_, ar_, am_, ai_, ae_, ak_, ah_, aw_, leV, at_, au_, V.inn, us, true_or, or_true] <;> (rw [show p + 1 + (k : Int) + 1 = p + 1 + ((k + 1 : Nat) : Int) by omega, acq_, ab0_]; simp [wInt])))
   ·refine .exit ?_
    refine Exists.intro (()) ⟨?_, ?_⟩
    ·trivial
    exact Can.weak (Weak.lit (by simp only [go_sem, seval, ax_, List.length_append, a4_, al_, ar_, am_, ai_, ae_, ak_, ah_, aw_, leV, at_, au_, V.inn, us, true_or, or_true] <;> (first | (have q := e1 h9; simp at h11; (obtain rfl : k = 3 := (by omega)); rw [q]; simp [hk_]; done) | (have q := e2 h9; rw [q]; simp; done))) (by simp only [go_sem, seval, ax_, List.length_append, a4_, al_, ar_, am_, ai_, ae_, ak_, ah_, aw_, leV, at_, au_, V.inn, us, true_or, or_true]) (by simp only [go_sem, seval, ax_, List.length_append, a4_, al_, ar_, am_, ai_, ae_, ak_, ah_, aw_, leV, at_, au_, V.inn, us, true_or, or_true] <;> (first | (have q := e1 h9; simp at h11; (obtain rfl : k = 3 := (by omega)); rw [q]; simp; omega) | (have q := e2 h9; rw [q]; simp [sR]; done))))
  ·refine .skip ?_
   refine Exists.intro (()) ⟨?_, ?_⟩
   ·trivial
   refine Can.trans (Can.ownSlot 3 60 72 11 (by simp only [go_sem, seval, ax_, List.length_append, a4_, al_, ar_, am_, ai_, ae_, ak_, ah_] <;> rfl) (by simp only [go_sem, seval, ax_, List.length_append, a4_, al_, ar_, am_, ai_, ae_, ak_, ah_]) (by simp only [go_sem, seval, ax_, List.length_append, a4_, al_, ar_, am_, ai_, ae_, ak_, ah_] <;> rfl)) ?_
   exact Can.weak (Weak.lit (by simp only [go_sem, seval, ax_, List.length_append, a4_, al_, ar_, am_, ai_, ae_, ak_, ah_, aw_, leV, at_, au_, V.inn, us, true_or, or_true] <;> (first | (have q := e1 h9; simp at h11; (obtain rfl : k = 3 := (by omega)); rw [q]; simp [hk_]; done) | (have q := e2 h9; rw [q]; simp; done))) (by simp only [go_sem, seval, ax_, List.length_append, a4_, al_, ar_, am_, ai_, ae_, ak_, ah_, aw_, leV, at_, au_, V.inn, us, true_or, or_true]) (by simp only [go_sem, seval, ax_, List.length_append, a4_, al_, ar_, am_, ai_, ae_, ak_, ah_, aw_, leV, at_, au_, V.inn, us, true_or, or_true] <;> (first | (have q := e1 h9; simp at h11; (obtain rfl : k = 3 := (by omega)); rw [q]; simp; omega) | (have q := e2 h9; rw [q]; simp [sR]; done))))
 refine .seq (.seq (.rgn [bv_ [0] [] (ec_ b (dPa b p).2 6 hb (by omega) (by omega))] (by simp only [go_sem, seval, ax_, List.length_append, a4_, al_, ar_, am_, ai_, ae_, ak_, ah_, a7_ (show -9223372036854775808 ≤ 1 + b9_ b (dPa b p).2 6 by omega) (by omega)]; rfl) ?_ ?_))
 ·first | trivial | simp
 refine .block (.loopK (fun n : Nat => ⟨[.pt 0 2 0 0, .no, .no, .ow 60 11 0 ((dPa b p).1.length + n), .no, .i .i64 ((dPn b p - n : Nat) : Int), .no, .no, .no, .no, .no, .no, .no, .no, .no, .no, .no, .no, .no, .no, .no, .no, .no, .no, .no, .no, .no, .no, .no, .no, .no, .no, .no, .no, .no, .no, .no, .no], a6_ [(0, rdB b (cy_ b n ((dPa b p).2 + 1)).2), (60, ⟨72, 11, sR ((dPa b p).1 ++ (cy_ b n ((dPa b p).2 + 1)).1)⟩)], us [60]⟩) (fun n : Nat => n ≤ dPn b p) (fun n : Nat => dPn b p - n) (0) ?_ ?_ (fun n hI => ?_))
 ·simp
 ·exact Can.weak (Weak.lit (by simp only [go_sem, seval, ax_, List.length_append, a4_, al_, ar_, am_, ai_, ae_, ak_, ah_, aw_, leV, at_, au_, V.inn, us, true_or, or_true] <;> (rw [← n3]; simp)) (by simp only [go_sem, seval, ax_, List.length_append, a4_, al_, ar_, am_, ai_, ae_, ak_, ah_, aw_, leV, at_, au_, V.inn, us, true_or, or_true]) (by simp only [go_sem, seval, ax_, List.length_append, a4_, al_, ar_, am_, ai_, ae_, ak_, ah_, aw_, leV, at_, au_, V.inn, us, true_or, or_true] <;> (simp [cy_])))
 refine .seq (.seq (.rgn [] (by simp only [go_sem, seval, ax_, List.length_append, a4_, al_, ar_, am_, ai_, ae_, ak_, ah_]; rfl) ?_ ?_))
 ·first | trivial | simp
 refine .condB (by simp only [go_sem, seval, ax_, List.length_append, a4_, al_, ar_, am_, ai_, ae_, ak_, ah_]; rfl) (by simp only [go_sem, seval, ax_, List.length_append, a4_, al_, ar_, am_, ai_, ae_, ak_, ah_]) (fun h29 => ?_) (fun h29 => ?_)
 ·refine .skip (.seq (.block (.rgn [bv_ [0] [] (rs_ b (cy_ b n ((dPa b p).2 + 1)).2 hb (by have := g2_ b (p := (dPa b p).2 + 1) (by omega) (by omega) n (by omega); omega) (by have := g2_ b (p := (dPa b p).2 + 1) (by omega) (by omega) n (by omega); omega))] (by simp only [go_sem, seval, ax_, List.length_append, a4_, al_, ar_, am_, ai_, ae_, ak_, ah_]; rfl) ?_ ?_)))
  ·simp only [decide_eq_true_eq] at h29; have q := D n (by omega); simp [am_]; omega
  refine .rgn [] (by simp only [go_sem, seval, ax_, List.length_append, a4_, al_, ar_, am_, ai_, ae_, ak_, ah_]; rfl) ?_ ?_
  ·first | trivial | simp
  refine Exists.intro (n + 1) ⟨?_, ?_, ?_⟩
  ·simp at h29; omega
  ·simp at h29; omega
  refine Can.trans (Can.swap 46 60 (by decide) (by decide) (by decide) (by decide) (by simp only [go_sem, seval, ax_, List.length_append, a4_, al_, ar_, am_, ai_, ae_, ak_, ah_, V.cl]) (by simp only [go_sem, seval, ax_, List.length_append, a4_, al_, ar_, am_, ai_, ae_, ak_, ah_, V.cl]) (by simp only [go_sem, seval, ax_, List.length_append, a4_, al_, ar_, am_, ai_, ae_, ak_, ah_, be_, sw, swM, rnB] <;> rfl) (by simp only [go_sem, seval, ax_, List.length_append, a4_, al_, ar_, am_, ai_, ae_, ak_, ah_, be_, sw, swM, rnB] <;> rfl) (by simp only [go_sem, seval, ax_, List.length_append, a4_, al_, ar_, am_, ai_, ae_, ak_, ah_, be_, sw, swM, rnB] <;> rfl)) ?_
  exact Can.weak (Weak.lit (by simp only [go_sem, seval, ax_, List.length_append, a4_, al_, ar_, am_, ai_, ae_, ak_, ah_, aw_, leV, at_, au_, V.inn, us, true_or, or_true] <;> (simp only [decide_eq_true_eq] at h29; rw [a7_ (by omega) (by omega)]; (try simp); omega)) (by simp only [go_sem, seval, ax_, List.length_append, a4_, al_, ar_, am_, ai_, ae_, ak_, ah_, aw_, leV, at_, au_, V.inn, us, true_or, or_true]) (by simp only [go_sem, seval, ax_, List.length_append, a4_, al_, ar_, am_, ai_, ae_, ak_, ah_, aw_, leV, at_, au_, V.inn, us, true_or, or_true] <;> (rw [ry_]; simp [ia_, io_, ae_])))
 ·refine .exit (.seq (.rgn [] (by simp only [go_sem, seval, ax_, List.length_append, a4_, al_, ar_, am_, ai_, ae_, ak_, ah_]; rfl) ?_ ?_))
  ·first | trivial | simp
  refine .ret ⟨.inr rfl, ?_⟩
  exact Out.mem' (by simp only [Tryz.results83]; rfl) (by simp only [a1_, bc_, go_sem, seval, ax_, List.length_append, a4_, al_, ar_, am_, ai_, ae_, ak_, ah_]) (by simp only [ba_, rns, rn, go_sem, seval, ax_, List.length_append, a4_, al_, ar_, am_, ai_, ae_, ak_, ah_] <;> ((simp at h29; (obtain rfl : n = dPn b p := (by omega)); unfold d9_; simp [(D (dPn b p) n2).2.2.1]))) (by simp) rfl (by decide) (by simp only [go_sem, seval, ax_, List.length_append, a4_, al_, ar_, am_, ai_, ae_, ak_, ah_]) (by simp only [ar_, go_sem, seval, ax_, List.length_append, a4_, al_, ar_, am_, ai_, ae_, ak_, ah_]) (by simp only [al_, go_sem, seval, ax_, List.length_append, a4_, al_, ar_, am_, ai_, ae_, ak_, ah_] <;> ((simp at h29; (obtain rfl : n = dPn b p := (by omega)); unfold d9_; simp [cv_, ai_])))
end
section
set_option maxRecDepth 100000
set_option maxHeartbeats 4000000
end
end Go.Proofs.YtefmbmafdgedmaaGreatDoor
