/- Tree logic, part 32: regions of which the order is drawn, where one operation touches a row of places. Conditions: none. -/
import Derived.Test.YtefmbmafdgedmaaGreatDoorKb
import Derived.Test.YtefmbmafdgedmaaGreatDoorK20
import Derived.Test.YtefmbmafdgedmaaGreatDoorKl
set_option linter.unusedVariables false
set_option linter.unusedSimpArgs false
namespace Go.Proofs.YtefmbmafdgedmaaGreatDoor
section
open Go.RowKit
def loI (c : Nat) (i : List Nat × List Nat) : Prop := (∀ x ∈ i.1, x < c) ∧ ∀ x ∈ i.2, x < c
def hiI (c : Nat) (i : List Nat × List Nat) : Prop := (∀ x ∈ i.1, c ≤ x) ∧ ∀ x ∈ i.2, c ≤ x
theorem iu_ {c : Nat} {a b : List Nat} (h : (∀ x ∈ a, x < c) ∧ (∀ x ∈ b, c ≤ x) ∨ (∀ x ∈ a, c ≤ x) ∧ (∀ x ∈ b, x < c)) : a.any (b.contains ·) = false := by
 rw [List.any_eq_false]
 intro x hx hb
 have hb' : x ∈ b := by simpa using hb
 rcases h with ⟨h1, h2⟩ | ⟨h1, h2⟩
 ·have := h1 x hx; have := h2 x hb'; omega
 ·have := h1 x hx; have := h2 x hb'; omega
theorem w0_ {ops : Array Oper} {infos : List (List Nat × List Nat)} (c n : Nat) (hlo : ∀ j i, j ≠ n → infos[j]? = some i → loI c i) (hhi : ∀ i, infos[n]? = some i → hiI c i) (hB : fw_ ops (infos.set n ([], [])) = true) : fw_ ops infos = true := by
 simp only [fw_, T5_] at hB ⊢
 refine ⟨hB.1, ?_⟩
 have h2 := hB.2
 rw [List.all_eq_true] at h2 ⊢
 rintro ⟨p, j⟩ hp
 rw [List.all_eq_true]
 rintro ⟨q, i⟩ hq
 obtain ⟨k, hk⟩ := List.mem_iff_getElem?.1 hp
 rw [List.getElem?_zipIdx] at hk
 obtain ⟨p', hp', e⟩ := Option.map_eq_some_iff.1 hk
 simp only [Nat.zero_add, Prod.mk.injEq] at e
 obtain ⟨rfl, rfl⟩ := e
 obtain ⟨m, hm⟩ := List.mem_iff_getElem?.1 hq
 rw [List.getElem?_take] at hm
 split at hm
 case isFalse => cases hm
 rename_i hmj
 rw [List.getElem?_zipIdx] at hm
 obtain ⟨q', hq', e⟩ := Option.map_eq_some_iff.1 hm
 simp only [Nat.zero_add, Prod.mk.injEq] at e
 obtain ⟨rfl, rfl⟩ := e
 rw [List.getElem?_zip_eq_some] at hp' hq'
 have get : ∀ (x : Nat) (z : Oper × (List Nat × List Nat)), ops.toList[x]? = some z.1 → infos[x]? = some z.2 → (ops.toList.zip (infos.set n ([], [])))[x]? = some (z.1, if x = n then ([], []) else z.2) := fun x z h1 h3 => by
  rw [List.getElem?_zip_eq_some]
  refine ⟨h1, ?_⟩
  rw [List.getElem?_set]
  by_cases hx : n = x
  ·subst hx
   rw [if_pos rfl, if_pos rfl, if_pos (List.getElem?_eq_some_iff.1 h3).1]
  ·rw [if_neg hx, if_neg (Ne.symm hx)]; exact h3
 have g1 := get k p' hp'.1 hp'.2
 have g2 := get m q' hq'.1 hq'.2
 have h3 := h2 ((p'.1, if k = n then (([], []) : List Nat × List Nat) else p'.2), k) (List.mem_of_getElem? (i := k) (by rw [List.getElem?_zipIdx, g1]; simp))
 rw [List.all_eq_true] at h3
 have h4 := h3 ((q'.1, if m = n then (([], []) : List Nat × List Nat) else q'.2), m) (List.mem_of_getElem? (i := m) (by rw [List.getElem?_take_of_lt hmj, List.getElem?_zipIdx, g2]; simp))
 have hc : ek_ ops q'.1 q'.2 p'.1 p'.2 = ek_ ops q'.1 (if m = n then ([], []) else q'.2) p'.1 (if k = n then ([], []) else p'.2) := by
  by_cases hkn : k = n
  ·have hmn : m ≠ n := by omega
   have l1 := hlo m _ hmn hq'.2
   have l2 := hhi _ (by rw [← hkn]; exact hp'.2)
   rw [if_neg hmn, if_pos hkn]
   unfold ek_
   rw [iu_ (a := q'.2.2) (b := p'.2.1) (c := c) (.inl ⟨l1.2, l2.1⟩), iu_ (a := p'.2.2) (b := q'.2.1) (c := c) (.inr ⟨l2.2, l1.1⟩)]
   simp
  ·rw [if_neg hkn]
   by_cases hmn : m = n
   ·have l1 := hlo k _ hkn hp'.2
    have l2 := hhi _ (by rw [← hmn]; exact hq'.2)
    rw [if_pos hmn]
    unfold ek_
    rw [iu_ (a := q'.2.2) (b := p'.2.1) (c := c) (.inr ⟨l2.2, l1.1⟩), iu_ (a := p'.2.2) (b := q'.2.1) (c := c) (.inl ⟨l1.2, l2.1⟩)]
    simp
   ·rw [if_neg hmn]
 show (!ek_ ops q'.1 q'.2 p'.1 p'.2 || _) = true
 rw [hc]
 exact h4
end
section
open Go.RowKit
set_option maxRecDepth 100000
set_option maxHeartbeats 4000000
theorem xo_ {α : Type} (m : α → Int → α × Int) {l : List α} {k : Int} {i : Nat} {d d' : α} (h : i < l.length) : (dm_ m l k).1.getD i d' = (m (l.getD i d) (mkK m l k i)).1 := by
 have e : l = l.take i ++ l.getD i d :: l.drop (i + 1) := TT.splitD h
 have hl : (dm_ m (l.take i) k).1.length = i := by rw [hq_, List.length_take]; omega
 conv => lhs; rw [e]
 rw [ix_, T8_, List.getElem?_append_right (by omega), hl, Nat.sub_self]
 simp only [dm_, List.getElem?_cons_zero, Option.getD_some]; rfl
def agq_ (e : E) : Prop := ∀ k : Int, 0 ≤ k → k + 3 * (ttE.NL e.kids : Int) ≤ 100000000 → ACall En 120 [.sl false (eR (mkL e.kids k).1), .i .i64 k] [] [.i .i64 (mkL e.kids k).2] []
theorem si_ (e0 : E) : agq_ e0 := by
 induction e0 using E.ind' with
 | h e0 ih =>
 intro k h0 h1
 have hlen : (mkL e0.kids k).1.length = e0.kids.length := vj_ _ _
 have hK := fun i => ad8_ e0.kids k i
 have hN := fun i => ttE.NL_le e0.kids i
 have hll := qm_ e0.kids
 have hrow : ∀ i, i < e0.kids.length → (eR (mkL e0.kids k).1).getD i [] = [.i .i64 (mkK mE e0.kids k i), .i .i64 (mkK mE e0.kids k i + 1), .s (mkT (mkK mE e0.kids k i + 2)), .sl false (eR (mkL (e0.kids.getD i E0).kids (mkK mE e0.kids k i + 3)).1)] := fun i h => by
  rw [ee_ (by rw [hlen]; exact h), iq_, xo_ mE (d := E0) h]; rfl
 have hnx : ∀ i, i < e0.kids.length → mkK mE e0.kids k (i + 1) = (mkL (e0.kids.getD i E0).kids (mkK mE e0.kids k i + 3)).2 := fun i h => by rw [r5_ mE (d := E0) h]; rfl
 have hend := vm_ mE (k := k) (Nat.le_refl e0.kids.length)
 rw [← iq_] at hend
 generalize e0.kids = l at *
 have hbd : ∀ i, i < l.length → 0 ≤ mkK mE l k i ∧ mkK mE l k i + 3 + 3 * (ttE.NL (l.getD i E0).kids : Int) ≤ 100000000 := fun i h => ⟨by rw [hK]; omega, MBnd h1 (hK i) h⟩
 have hpos : ∀ i, i < l.length → 0 ≤ (mkL (l.getD i E0).kids (mkK mE l k i + 3)).2 := fun i h => by rw [(fk_ _ _).1]; have := (hbd i h).1; omega
 have hw1 : ∀ i, i < l.length → IntKind.i64.wrap (mkK mE l k i + 1) = mkK mE l k i + 1 := fun i h => by have := hbd i h; exact bt_ (by omega) (by omega)
 have hw2 : ∀ i, i < l.length → IntKind.i64.wrap (mkK mE l k i + 1 + 1) = mkK mE l k i + 2 := fun i h => by have := hbd i h; rw [bt_ (by omega) (by omega)]; omega
 have hw3 : ∀ i, i < l.length → IntKind.i64.wrap (mkK mE l k i + 2 + 1) = mkK mE l k i + 3 := fun i h => by have := hbd i h; rw [bt_ (by omega) (by omega)]; omega
 refine aq_ (fn := Tryz.f120) [] Tryz.func120 rfl rfl (by simp) fun C => ?_
 rw [bb_]
 simp only [Tryz.ntmps120, T7_, List.length_nil, Nat.reduceAdd, Nat.reduceSub, List.replicate_succ, List.replicate_zero, List.cons_append, List.nil_append, bl_]
 refine .seq (.rgn [] (by simp only [go_sem, seval, hlen]; rfl) ?_ ?_)
 ·(first | trivial | (simp; done) | (simp only [T3_] at h9; and_intros <;> first | omega | (simp [hlen]; omega)))
 refine .seq (.seq (.rgn [] (by simp only [go_sem, seval, hlen]; rfl) ?_ ?_))
 ·(first | trivial | (simp; done) | (simp only [T3_] at h9; and_intros <;> first | omega | (simp [hlen]; omega)))
 refine .block (.loopK (fun i : Nat => ⟨[.sl false (eR (mkL l k).1), .i .i64 (mkK mE l k i), .no, .no, .no, .i .i64 i, .no, .no, .no, .no, .no, .no, .no, .no, .no, .no, .no, .no, .no, .no, .no, .no, .no, .no, .no, .no, .no, .no, .no, .no, .no, .no, .no, .no, .no, .no, .no, .no, .no, .no, .no, .no, .no, .no, .no, .no, .no, .no, .no, .no], be_ [], us []⟩) (fun i : Nat => i ≤ l.length) (fun i : Nat => l.length - i) (0) ?_ ?_ (fun i hI => ?_))
 ·simp
 ·exact Can.weak (Weak.lit (by simp only [go_sem, seval, hlen, a2_, leV, az_, a0_, V.inn, us, T9_, Ta_] <;> (simp [rv_])) (by simp only [go_sem, seval, hlen, a2_, leV, az_, a0_, V.inn, us, T9_, Ta_]) (by simp only [go_sem, seval, hlen, a2_, leV, az_, a0_, V.inn, us, T9_, Ta_]))
 refine .seq (.seq (.rgn [] (by simp only [go_sem, seval, hlen]; rfl) ?_ ?_))
 ·(first | trivial | (simp; done) | (simp only [T3_] at h9; and_intros <;> first | omega | (simp [hlen]; omega)))
 refine .condB (by simp only [go_sem, seval, hlen]; rfl) (by simp only [go_sem, seval, hlen]) (fun h9 => ?_) (fun h9 => ?_)
 ·refine .skip (.seq (.block (.seq (.seq (.rgn [] (by simp only [go_sem, seval, hlen, hrow i (by simpa using h9)]; rfl) ?_ ?_)))))
  ·(first | trivial | (simp; done) | (simp only [T3_] at h9; and_intros <;> first | omega | (simp [hlen]; omega)))
  refine .condB (by simp only [go_sem, seval, hlen]; rfl) (by simp only [go_sem, seval, hlen]) (fun h18 => ?_) (fun h18 => ?_)
  ·simp at h18
  ·refine .skip (.seq (.rgn [] (by simp only [go_sem, seval, hlen, hw1 i (show i < l.length by simpa using h9)]; rfl) ?_ ?_))
   ·(first | trivial | (simp; done) | (simp only [T3_] at h9; and_intros <;> first | omega | (simp [hlen]; omega)))
   refine .seq (.seq (.rgn [] (by simp only [go_sem, seval, hlen, hrow i (by simpa using h9), hw1 i (show i < l.length by simpa using h9)]; rfl) ?_ ?_))
   ·(first | trivial | (simp; done) | (simp only [T3_] at h9; and_intros <;> first | omega | (simp [hlen]; omega)))
   refine .condB (by simp only [go_sem, seval, hlen]; rfl) (by simp only [go_sem, seval, hlen]) (fun h27 => ?_) (fun h27 => ?_)
   ·simp at h27
   ·refine .skip (.seq (.rgn [] (by simp only [go_sem, seval, hlen, hw1 i (show i < l.length by simpa using h9), hw2 i (show i < l.length by simpa using h9)]; rfl) ?_ ?_))
    ·(first | trivial | (simp; done) | (simp only [T3_] at h9; and_intros <;> first | omega | (simp [hlen]; omega)))
    refine .seq (.seq (.rgnD [bj_ (m6_ (mkK mE l k i + 2) (by have := hbd i (by simpa using h9); omega) (by have := hbd i (by simpa using h9); omega))] enM (by simp only [go_sem, seval, hlen, hrow i (by simpa using h9), hw1 i (show i < l.length by simpa using h9), hw2 i (show i < l.length by simpa using h9)]; rfl) (by rfl) ?_ ?_))
    ·(first | trivial | (simp; done) | (simp only [T3_] at h9; and_intros <;> first | omega | (simp [hlen]; omega)))
    refine .condB (by simp only [go_sem, seval, hlen]; rfl) (by simp only [go_sem, seval, hlen]) (fun h37 => ?_) (fun h37 => ?_)
    ·simp at h37
    ·refine .skip (.seq (.rgn [] (by simp only [go_sem, seval, hlen, hw3 i (show i < l.length by simpa using h9)]; rfl) ?_ ?_))
     ·(first | trivial | (simp; done) | (simp only [T3_] at h9; and_intros <;> first | omega | (simp [hlen]; omega)))
     refine .seq (.rgn [bj_ (ih (l.getD i E0) (b5_ (by simpa using h9)) (mkK mE l k i + 3) (by have := hbd i (by simpa using h9); omega) (by have := hbd i (by simpa using h9); omega))] (by simp only [go_sem, seval, hlen, hrow i (by simpa using h9), hw3 i (show i < l.length by simpa using h9)]; rfl) ?_ ?_)
     ·(first | trivial | (simp; done) | (simp only [T3_] at h9; and_intros <;> first | omega | (simp [hlen]; omega)))
     refine .seq (.rgn [] (by simp only [go_sem, seval, hlen]; rfl) ?_ ?_)
     ·(first | trivial | (simp; done) | (simp only [T3_] at h9; and_intros <;> first | omega | (simp [hlen]; omega)))
     refine .condB (by simp only [go_sem, seval, hlen]; rfl) (by simp only [go_sem, seval, hlen]) (fun h48 => ?_) (fun h48 => ?_)
     ·simp only [T3_] at h48; have := hpos i (by simpa using h9); omega
     ·refine .skip (.rgn [] (by simp only [go_sem, seval, hlen]; rfl) ?_ ?_)
      ·(first | trivial | (simp; done) | (simp only [T3_] at h9; and_intros <;> first | omega | (simp [hlen]; omega)))
      refine Exists.intro (i + 1) ⟨?_, ?_, ?_⟩
      ·simp at h9; omega
      ·simp at h9; omega
      exact Can.weak (Weak.lit (by simp only [go_sem, seval, hlen, a2_, leV, az_, a0_, V.inn, us, T9_, Ta_] <;> (exact ⟨(hnx i (by simpa using h9)).symm, bt_ (by simp at h9; omega) (by simp at h9; omega)⟩)) (by simp only [go_sem, seval, hlen, a2_, leV, az_, a0_, V.inn, us, T9_, Ta_]) (by simp only [go_sem, seval, hlen, a2_, leV, az_, a0_, V.inn, us, T9_, Ta_]))
 ·refine .exit (.seq (.rgn [] (by simp only [go_sem, seval, hlen]; rfl) ?_ ?_))
  ·(first | trivial | (simp; done) | (simp only [T3_] at h9; and_intros <;> first | omega | (simp [hlen]; omega)))
  refine .ret ⟨.inr rfl, ?_⟩
  exact Out.plain (by simp only [Tryz.results120]; rfl) (by simp only [a4_, bh_, go_sem, seval, hlen] <;> (split <;> rfl)) (by simp only [bg_, go_sem, seval, hlen] <;> (simp at h9; rw [show i = l.length by omega, hend])) (by simp only [go_sem, seval, hlen])
theorem eo_ (e : E) (k : Int) : eC (mX e k) = [.i .i64 e.kind, .i .i64 e.n, .s e.s, .sl false (eR (mkL e.kids k).1)] := by rw [a6_]; rfl
theorem n7_ (e : E) (k : Int) (h0 : 0 ≤ k) (h1 : k + 3 * (ttE.NL e.kids : Int) ≤ 100000000) : ACall En 69 [.ag (eC (mX e k)), .i .i64 k] [] [.i .i64 (mkL e.kids k).2] [] := by
 have hp : 0 ≤ (mkL e.kids k).2 := by rw [(fk_ _ _).1]; omega
 refine aq_ (fn := Tryz.f69) [] Tryz.func69 rfl rfl (by simp) fun C => ?_
 rw [bb_]
 simp only [Tryz.ntmps69, T7_, List.length_nil, Nat.reduceAdd, Nat.reduceSub, List.replicate_succ, List.replicate_zero, List.cons_append, List.nil_append, bl_]
 refine .seq (.rgn [] (by simp only [go_sem, seval, eo_]; rfl) ?_ ?_)
 ·first | trivial | simp
 refine .seq (.rgn [bj_ (si_ e k h0 h1)] (by simp only [go_sem, seval, eo_]; rfl) ?_ ?_)
 ·first | trivial | simp
 refine .seq (.seq (.rgn [] (by simp only [go_sem, seval, eo_]; rfl) ?_ ?_))
 ·first | trivial | simp
 refine .condB (by simp only [go_sem, seval, eo_]; rfl) (by simp only [go_sem, seval, eo_]) (fun h10 => ?_) (fun h10 => ?_)
 ·simp only [T3_] at h10; omega
 ·refine .skip (.seq (.rgn [] (by simp only [go_sem, seval, eo_]; rfl) ?_ ?_))
  ·first | trivial | simp
  refine .ret ⟨.inr rfl, ?_⟩
  exact Out.plain (by simp only [Tryz.results69]; rfl) (by simp only [a4_, bh_, go_sem, seval, eo_] <;> (split <;> rfl)) (by simp only [bg_, go_sem, seval, eo_] <;> (rfl)) (by simp only [go_sem, seval, eo_])
theorem hj_ (b : Bl) (k : Int) : bC (mB b k) = [.i .i64 b.kind, .s b.name, .i .i64 b.expr.kind, .i .i64 b.expr.n, .s b.expr.s, .sl false (eR (mkL b.expr.kids k).1), .i .i64 b.thn.kind, .i .i64 b.thn.n, .s b.thn.s, .sl false (eR (mkL b.thn.kids (mkL b.expr.kids k).2).1)] := by
 show V.i .i64 b.kind :: V.s b.name :: (eC (mX b.expr k) ++ eC (mX b.thn _)) = _
 rw [eo_, eo_]; rfl
theorem nc_ (b : Bl) (k : Int) (h0 : 0 ≤ k) (h1 : k + 3 * (ttB.N b : Int) ≤ 100000000) : ACall En 23 [.ag (bC (mB b k)), .i .i64 k] [] [.i .i64 (mBK b k)] [] := by
 have e1 := gi_ b.expr
 have e2 := gi_ b.thn
 have h2 : k + 3 * (ttE.N b.expr + ttE.N b.thn : Int) ≤ 100000000 := h1
 have hk := (fk_ b.expr.kids k).1
 rw [f6_] at hk
 have hp : 0 ≤ (mkL b.thn.kids (mkL b.expr.kids k).2).2 := by rw [(fk_ _ _).1]; omega
 refine aq_ (fn := Tryz.f23) [] Tryz.func23 rfl rfl (by simp) fun C => ?_
 rw [bb_]
 simp only [Tryz.ntmps23, T7_, List.length_nil, Nat.reduceAdd, Nat.reduceSub, List.replicate_succ, List.replicate_zero, List.cons_append, List.nil_append, bl_]
 refine .seq (.rgn [] (by simp only [go_sem, seval, hj_, eo_]; rfl) ?_ ?_)
 ·first | trivial | simp
 refine .seq (.rgn [bj_ (n7_ b.expr k h0 (by omega))] (by simp only [go_sem, seval, hj_, eo_]; rfl) ?_ ?_)
 ·first | trivial | simp
 refine .seq (.seq (.rgn [] (by simp only [go_sem, seval, hj_, eo_]; rfl) ?_ ?_))
 ·first | trivial | simp
 refine .condB (by simp only [go_sem, seval, hj_, eo_]; rfl) (by simp only [go_sem, seval, hj_, eo_]) (fun h10 => ?_) (fun h10 => ?_)
 ·simp only [T3_] at h10; omega
 ·refine .skip (.seq (.rgn [bj_ (n7_ b.thn (mkL b.expr.kids k).2 (by omega) (by omega))] (by simp only [go_sem, seval, hj_, eo_]; rfl) ?_ ?_))
  ·first | trivial | simp
  refine .seq (.seq (.rgn [] (by simp only [go_sem, seval, hj_, eo_]; rfl) ?_ ?_))
  ·first | trivial | simp
  refine .condB (by simp only [go_sem, seval, hj_, eo_]; rfl) (by simp only [go_sem, seval, hj_, eo_]) (fun h16 => ?_) (fun h16 => ?_)
  ·simp only [T3_] at h16; omega
  ·refine .skip (.seq (.rgn [] (by simp only [go_sem, seval, hj_, eo_]; rfl) ?_ ?_))
   ·first | trivial | simp
   refine .ret ⟨.inr rfl, ?_⟩
   exact Out.plain (by simp only [Tryz.results23]; rfl) (by simp only [a4_, bh_, go_sem, seval, hj_, eo_] <;> (split <;> rfl)) (by simp only [bg_, go_sem, seval, hj_, eo_] <;> (rfl)) (by simp only [go_sem, seval, hj_, eo_])
end
section
open Go.RowKit
set_option maxRecDepth 100000
set_option maxHeartbeats 8000000
theorem ob_ (c : Nat) (bs : List Blk) : (ed_ c bs).map (·.1) = List.range' c bs.length := by
 unfold ed_; rw [List.map_fst_zip (by simp)]
end
section
open Go.RowKit
set_option maxRecDepth 100000
set_option maxHeartbeats 8000000
theorem ai_ {l c0 d : Nat} {b b1 : Blk} {L : List (Nat × Blk)} (h : l < c0) : ep_ ((l, b1) :: L) (c0 + d) b = (l, b1) :: ep_ L (c0 + d) b := mq_ (by omega)
theorem ah_ {k c : Nat} {X : List Blk} {b : Blk} (h : c = k + X.length) : ep_ (bl_ k X) c b = bl_ k (X ++ [b]) := by rw [h, s2_]
end
end Go.Proofs.YtefmbmafdgedmaaGreatDoor
