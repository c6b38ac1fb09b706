/- Tree logic, part 32: regions of which the order is drawn, where one operation touches a row of places. Conditions: none. -/
import Derived.Test.YtcigkafioinfoaaGreatDoorKb
import Derived.Test.YtcigkafioinfoaaGreatDoorK20
import Derived.Test.YtcigkafioinfoaaGreatDoorKl
set_option linter.unusedVariables false
set_option linter.unusedSimpArgs false
namespace Go.Proofs.YtcigkafioinfoaaGreatDoor
section
open Go.RowKit
def loI (c : Nat) (i : List Nat × List Nat) : Prop := (∀ x ∈ i.1, x < c) ∧ ∀ x ∈ i.2, x < c
def hiI (c : Nat) (i : List Nat × List Nat) : Prop := (∀ x ∈ i.1, c ≤ x) ∧ ∀ x ∈ i.2, c ≤ x
theorem jg_ {c : Nat} {a b : List Nat} (h : (∀ x ∈ a, x < c) ∧ (∀ x ∈ b, c ≤ x) ∨ (∀ x ∈ a, c ≤ x) ∧ (∀ x ∈ b, x < c)) : a.any (b.contains ·) = false := by
 rw [List.any_eq_false]
 intro x hx hb
 have hb' : x ∈ b := by simpa using hb
 rcases h with ⟨h1, h2⟩ | ⟨h1, h2⟩
 ·have := h1 x hx; have := h2 x hb'; omega
 ·have := h1 x hx; have := h2 x hb'; omega
theorem x3_ {ops : Array Oper} {infos : List (List Nat × List Nat)} (c n : Nat) (hlo : ∀ j i, j ≠ n → infos[j]? = some i → loI c i) (hhi : ∀ i, infos[n]? = some i → hiI c i) (hB : hm_ ops (infos.set n ([], [])) = true) : hm_ ops infos = true := by
 simp only [hm_, T5_] at hB ⊢
 refine ⟨hB.1, ?_⟩
 have h2 := hB.2
 rw [List.all_eq_true] at h2 ⊢
 rintro ⟨p, j⟩ hp
 rw [List.all_eq_true]
 rintro ⟨q, i⟩ hq
 obtain ⟨k, hk⟩ := List.mem_iff_getElem?.1 hp
 rw [List.getElem?_zipIdx] at hk
 obtain ⟨p', hp', e⟩ := Option.map_eq_some_iff.1 hk
 simp only [Nat.zero_add, Prod.mk.injEq] at e
 obtain ⟨rfl, rfl⟩ := e
 obtain ⟨m, hm⟩ := List.mem_iff_getElem?.1 hq
 rw [List.getElem?_take] at hm
 split at hm
 case isFalse => cases hm
 rename_i hmj
 rw [List.getElem?_zipIdx] at hm
 obtain ⟨q', hq', e⟩ := Option.map_eq_some_iff.1 hm
 simp only [Nat.zero_add, Prod.mk.injEq] at e
 obtain ⟨rfl, rfl⟩ := e
 rw [List.getElem?_zip_eq_some] at hp' hq'
 have get : ∀ (x : Nat) (z : Oper × (List Nat × List Nat)), ops.toList[x]? = some z.1 → infos[x]? = some z.2 → (ops.toList.zip (infos.set n ([], [])))[x]? = some (z.1, if x = n then ([], []) else z.2) := fun x z h1 h3 => by
  rw [List.getElem?_zip_eq_some]
  refine ⟨h1, ?_⟩
  rw [List.getElem?_set]
  by_cases hx : n = x
  ·subst hx
   rw [if_pos rfl, if_pos rfl, if_pos (List.getElem?_eq_some_iff.1 h3).1]
  ·rw [if_neg hx, if_neg (Ne.symm hx)]; exact h3
 have g1 := get k p' hp'.1 hp'.2
 have g2 := get m q' hq'.1 hq'.2
 have h3 := h2 ((p'.1, if k = n then (([], []) : List Nat × List Nat) else p'.2), k) (List.mem_of_getElem? (i := k) (by rw [List.getElem?_zipIdx, g1]; simp))
 rw [List.all_eq_true] at h3
 have h4 := h3 ((q'.1, if m = n then (([], []) : List Nat × List Nat) else q'.2), m) (List.mem_of_getElem? (i := m) (by rw [List.getElem?_take_of_lt hmj, List.getElem?_zipIdx, g2]; simp))
 have hc : e1_ ops q'.1 q'.2 p'.1 p'.2 = e1_ ops q'.1 (if m = n then ([], []) else q'.2) p'.1 (if k = n then ([], []) else p'.2) := by
  by_cases hkn : k = n
  ·have hmn : m ≠ n := by omega
   have l1 := hlo m _ hmn hq'.2
   have l2 := hhi _ (by rw [← hkn]; exact hp'.2)
   rw [if_neg hmn, if_pos hkn]
   unfold e1_
   rw [jg_ (a := q'.2.2) (b := p'.2.1) (c := c) (.inl ⟨l1.2, l2.1⟩), jg_ (a := p'.2.2) (b := q'.2.1) (c := c) (.inr ⟨l2.2, l1.1⟩)]
   simp
  ·rw [if_neg hkn]
   by_cases hmn : m = n
   ·have l1 := hlo k _ hkn hp'.2
    have l2 := hhi _ (by rw [← hmn]; exact hq'.2)
    rw [if_pos hmn]
    unfold e1_
    rw [jg_ (a := q'.2.2) (b := p'.2.1) (c := c) (.inr ⟨l2.2, l1.1⟩), jg_ (a := p'.2.2) (b := q'.2.1) (c := c) (.inl ⟨l1.2, l2.1⟩)]
    simp
   ·rw [if_neg hmn]
 show (!e1_ ops q'.1 q'.2 p'.1 p'.2 || _) = true
 rw [hc]
 exact h4
end
section
open Go.RowKit
set_option maxRecDepth 100000
set_option maxHeartbeats 4000000
theorem yo_ {α : Type} (m : α → Int → α × Int) {l : List α} {k : Int} {i : Nat} {d d' : α} (h : i < l.length) : (c4_ m l k).1.getD i d' = (m (l.getD i d) (mkK m l k i)).1 := by
 have e : l = l.take i ++ l.getD i d :: l.drop (i + 1) := TT.splitD h
 have hl : (c4_ m (l.take i) k).1.length = i := by rw [gz_, List.length_take]; omega
 conv => lhs; rw [e]
 rw [i8_, T8_, List.getElem?_append_right (by omega), hl, Nat.sub_self]
 simp only [c4_, List.getElem?_cons_zero, Option.getD_some]; rfl
def aio_ (e : E) : Prop := ∀ k : Int, 0 ≤ k → k + 3 * (ttE.NL e.kids : Int) ≤ 100000000 → ACall En 173 [.sl false (eR (mkL e.kids k).1), .i .i64 k] [] [.i .i64 (mkL e.kids k).2] []
theorem ss_ (e0 : E) : aio_ e0 := by
 induction e0 using E.ind' with
 | h e0 ih =>
 intro k h0 h1
 have hlen : (mkL e0.kids k).1.length = e0.kids.length := qy_ _ _
 have hK := fun i => af4_ e0.kids k i
 have hN := fun i => ttE.NL_le e0.kids i
 have hll := nd_ e0.kids
 have hrow : ∀ i, i < e0.kids.length → (eR (mkL e0.kids k).1).getD i [] = [.i .i64 (mkK mE e0.kids k i), .i .i64 (mkK mE e0.kids k i + 1), .s (mkT (mkK mE e0.kids k i + 2)), .sl false (eR (mkL (e0.kids.getD i E0).kids (mkK mE e0.kids k i + 3)).1)] := fun i h => by
  rw [c7_ (by rw [hlen]; exact h), jf_, yo_ mE (d := E0) h]; rfl
 have hnx : ∀ i, i < e0.kids.length → mkK mE e0.kids k (i + 1) = (mkL (e0.kids.getD i E0).kids (mkK mE e0.kids k i + 3)).2 := fun i h => by rw [io_ mE (d := E0) h]; rfl
 have hend := na_ mE (k := k) (Nat.le_refl e0.kids.length)
 rw [← jf_] at hend
 generalize e0.kids = l at *
 have hbd : ∀ i, i < l.length → 0 ≤ mkK mE l k i ∧ mkK mE l k i + 3 + 3 * (ttE.NL (l.getD i E0).kids : Int) ≤ 100000000 := fun i h => ⟨by rw [hK]; omega, MBnd h1 (hK i) h⟩
 have hpos : ∀ i, i < l.length → 0 ≤ (mkL (l.getD i E0).kids (mkK mE l k i + 3)).2 := fun i h => by rw [(d8_ _ _).1]; have := (hbd i h).1; omega
 have hw1 : ∀ i, i < l.length → IntKind.i64.wrap (mkK mE l k i + 1) = mkK mE l k i + 1 := fun i h => by have := hbd i h; exact bv_ (by omega) (by omega)
 have hw2 : ∀ i, i < l.length → IntKind.i64.wrap (mkK mE l k i + 1 + 1) = mkK mE l k i + 2 := fun i h => by have := hbd i h; rw [bv_ (by omega) (by omega)]; omega
 have hw3 : ∀ i, i < l.length → IntKind.i64.wrap (mkK mE l k i + 2 + 1) = mkK mE l k i + 3 := fun i h => by have := hbd i h; rw [bv_ (by omega) (by omega)]; omega
 refine an_ (fn := Tryz.f173) [] Tryz.func173 rfl rfl (by simp) fun C => ?_
 rw [bb_]
 simp only [Tryz.ntmps173, T7_, List.length_nil, Nat.reduceAdd, Nat.reduceSub, List.replicate_succ, List.replicate_zero, List.cons_append, List.nil_append, bu_]
 refine .seq (.rgn [] (by simp only [go_sem, seval, hlen]; rfl) ?_ ?_)
 ·(first | trivial | (simp; done) | (simp only [T3_] at h9; and_intros <;> first | omega | (simp [hlen]; omega)))
 refine .seq (.seq (.rgn [] (by simp only [go_sem, seval, hlen]; rfl) ?_ ?_))
 ·(first | trivial | (simp; done) | (simp only [T3_] at h9; and_intros <;> first | omega | (simp [hlen]; omega)))
 refine .block (.loopK (fun i : Nat => ⟨[.sl false (eR (mkL l k).1), .i .i64 (mkK mE l k i), .no, .no, .no, .i .i64 i, .no, .no, .no, .no, .no, .no, .no, .no, .no, .no, .no, .no, .no, .no, .no, .no, .no, .no, .no, .no, .no, .no, .no, .no, .no, .no, .no, .no, .no, .no, .no, .no, .no, .no, .no, .no, .no, .no, .no, .no, .no, .no, .no, .no], bf_ [], us []⟩) (fun i : Nat => i ≤ l.length) (fun i : Nat => l.length - i) (0) ?_ ?_ (fun i hI => ?_))
 ·simp
 ·exact Can.weak (Weak.lit (by simp only [go_sem, seval, hlen, a2_, leV, az_, ay_, V.inn, us, T9_, Ta_] <;> (simp [kn_])) (by simp only [go_sem, seval, hlen, a2_, leV, az_, ay_, V.inn, us, T9_, Ta_]) (by simp only [go_sem, seval, hlen, a2_, leV, az_, ay_, V.inn, us, T9_, Ta_]))
 refine .seq (.seq (.rgn [] (by simp only [go_sem, seval, hlen]; rfl) ?_ ?_))
 ·(first | trivial | (simp; done) | (simp only [T3_] at h9; and_intros <;> first | omega | (simp [hlen]; omega)))
 refine .condB (by simp only [go_sem, seval, hlen]; rfl) (by simp only [go_sem, seval, hlen]) (fun h9 => ?_) (fun h9 => ?_)
 ·refine .skip (.seq (.block (.seq (.seq (.rgn [] (by simp only [go_sem, seval, hlen, hrow i (by simpa using h9)]; rfl) ?_ ?_)))))
  ·(first | trivial | (simp; done) | (simp only [T3_] at h9; and_intros <;> first | omega | (simp [hlen]; omega)))
  refine .condB (by simp only [go_sem, seval, hlen]; rfl) (by simp only [go_sem, seval, hlen]) (fun h18 => ?_) (fun h18 => ?_)
  ·simp at h18
  ·refine .skip (.seq (.rgn [] (by simp only [go_sem, seval, hlen, hw1 i (show i < l.length by simpa using h9)]; rfl) ?_ ?_))
   ·(first | trivial | (simp; done) | (simp only [T3_] at h9; and_intros <;> first | omega | (simp [hlen]; omega)))
   refine .seq (.seq (.rgn [] (by simp only [go_sem, seval, hlen, hrow i (by simpa using h9), hw1 i (show i < l.length by simpa using h9)]; rfl) ?_ ?_))
   ·(first | trivial | (simp; done) | (simp only [T3_] at h9; and_intros <;> first | omega | (simp [hlen]; omega)))
   refine .condB (by simp only [go_sem, seval, hlen]; rfl) (by simp only [go_sem, seval, hlen]) (fun h27 => ?_) (fun h27 => ?_)
   ·simp at h27
   ·refine .skip (.seq (.rgn [] (by simp only [go_sem, seval, hlen, hw1 i (show i < l.length by simpa using h9), hw2 i (show i < l.length by simpa using h9)]; rfl) ?_ ?_))
    ·(first | trivial | (simp; done) | (simp only [T3_] at h9; and_intros <;> first | omega | (simp [hlen]; omega)))
    refine .seq (.seq (.rgnD [br_ (ft_ (mkK mE l k i + 2) (by have := hbd i (by simpa using h9); omega) (by have := hbd i (by simpa using h9); omega))] enM (by simp only [go_sem, seval, hlen, hrow i (by simpa using h9), hw1 i (show i < l.length by simpa using h9), hw2 i (show i < l.length by simpa using h9)]; rfl) (by rfl) ?_ ?_))
    ·(first | trivial | (simp; done) | (simp only [T3_] at h9; and_intros <;> first | omega | (simp [hlen]; omega)))
    refine .condB (by simp only [go_sem, seval, hlen]; rfl) (by simp only [go_sem, seval, hlen]) (fun h37 => ?_) (fun h37 => ?_)
    ·simp at h37
    ·refine .skip (.seq (.rgn [] (by simp only [go_sem, seval, hlen, hw3 i (show i < l.length by simpa using h9)]; rfl) ?_ ?_))
     ·(first | trivial | (simp; done) | (simp only [T3_] at h9; and_intros <;> first | omega | (simp [hlen]; omega)))
     refine .seq (.rgn [br_ (ih (l.getD i E0) (b2_ (by simpa using h9)) (mkK mE l k i + 3) (by have := hbd i (by simpa using h9); omega) (by have := hbd i (by simpa using h9); omega))] (by simp only [go_sem, seval, hlen, hrow i (by simpa using h9), hw3 i (show i < l.length by simpa using h9)]; rfl) ?_ ?_)
     ·(first | trivial | (simp; done) | (simp only [T3_] at h9; and_intros <;> first | omega | (simp [hlen]; omega)))
     refine .seq (.rgn [] (by simp only [go_sem, seval, hlen]; rfl) ?_ ?_)
     ·(first | trivial | (simp; done) | (simp only [T3_] at h9; and_intros <;> first | omega | (simp [hlen]; omega)))
     refine .condB (by simp only [go_sem, seval, hlen]; rfl) (by simp only [go_sem, seval, hlen]) (fun h48 => ?_) (fun h48 => ?_)
     ·simp only [T3_] at h48; have := hpos i (by simpa using h9); omega
     ·refine .skip (.rgn [] (by simp only [go_sem, seval, hlen]; rfl) ?_ ?_)
      ·(first | trivial | (simp; done) | (simp only [T3_] at h9; and_intros <;> first | omega | (simp [hlen]; omega)))
      refine Exists.intro (i + 1) ⟨?_, ?_, ?_⟩
      ·simp at h9; omega
      ·simp at h9; omega
      exact Can.weak (Weak.lit (by simp only [go_sem, seval, hlen, a2_, leV, az_, ay_, V.inn, us, T9_, Ta_] <;> (exact ⟨(hnx i (by simpa using h9)).symm, bv_ (by simp at h9; omega) (by simp at h9; omega)⟩)) (by simp only [go_sem, seval, hlen, a2_, leV, az_, ay_, V.inn, us, T9_, Ta_]) (by simp only [go_sem, seval, hlen, a2_, leV, az_, ay_, V.inn, us, T9_, Ta_]))
 ·refine .exit (.seq (.rgn [] (by simp only [go_sem, seval, hlen]; rfl) ?_ ?_))
  ·(first | trivial | (simp; done) | (simp only [T3_] at h9; and_intros <;> first | omega | (simp [hlen]; omega)))
  refine .ret ⟨.inr rfl, ?_⟩
  exact Out.plain (by simp only [Tryz.results173]; rfl) (by simp only [ba_, bs_, go_sem, seval, hlen] <;> (split <;> rfl)) (by simp only [bq_, go_sem, seval, hlen] <;> (simp at h9; rw [show i = l.length by omega, hend])) (by simp only [go_sem, seval, hlen])
theorem ek_ (e : E) (k : Int) : eC (mX e k) = [.i .i64 e.kind, .i .i64 e.n, .s e.s, .sl false (eR (mkL e.kids k).1)] := by rw [bm_]; rfl
theorem pa_ (e : E) (k : Int) (h0 : 0 ≤ k) (h1 : k + 3 * (ttE.NL e.kids : Int) ≤ 100000000) : ACall En 111 [.ag (eC (mX e k)), .i .i64 k] [] [.i .i64 (mkL e.kids k).2] [] := by
 have hp : 0 ≤ (mkL e.kids k).2 := by rw [(d8_ _ _).1]; omega
 refine an_ (fn := Tryz.f111) [] Tryz.func111 rfl rfl (by simp) fun C => ?_
 rw [bb_]
 simp only [Tryz.ntmps111, T7_, List.length_nil, Nat.reduceAdd, Nat.reduceSub, List.replicate_succ, List.replicate_zero, List.cons_append, List.nil_append, bu_]
 refine .seq (.rgn [] (by simp only [go_sem, seval, ek_]; rfl) ?_ ?_)
 ·first | trivial | simp
 refine .seq (.rgn [br_ (ss_ e k h0 h1)] (by simp only [go_sem, seval, ek_]; rfl) ?_ ?_)
 ·first | trivial | simp
 refine .seq (.seq (.rgn [] (by simp only [go_sem, seval, ek_]; rfl) ?_ ?_))
 ·first | trivial | simp
 refine .condB (by simp only [go_sem, seval, ek_]; rfl) (by simp only [go_sem, seval, ek_]) (fun h10 => ?_) (fun h10 => ?_)
 ·simp only [T3_] at h10; omega
 ·refine .skip (.seq (.rgn [] (by simp only [go_sem, seval, ek_]; rfl) ?_ ?_))
  ·first | trivial | simp
  refine .ret ⟨.inr rfl, ?_⟩
  exact Out.plain (by simp only [Tryz.results111]; rfl) (by simp only [ba_, bs_, go_sem, seval, ek_] <;> (split <;> rfl)) (by simp only [bq_, go_sem, seval, ek_] <;> (rfl)) (by simp only [go_sem, seval, ek_])
theorem hr_ (b : Bl) (k : Int) : bC (mB b k) = [.i .i64 b.kind, .s b.name, .i .i64 b.expr.kind, .i .i64 b.expr.n, .s b.expr.s, .sl false (eR (mkL b.expr.kids k).1), .i .i64 b.thn.kind, .i .i64 b.thn.n, .s b.thn.s, .sl false (eR (mkL b.thn.kids (mkL b.expr.kids k).2).1)] := by
 show V.i .i64 b.kind :: V.s b.name :: (eC (mX b.expr k) ++ eC (mX b.thn _)) = _
 rw [ek_, ek_]; rfl
theorem no_ (b : Bl) (k : Int) (h0 : 0 ≤ k) (h1 : k + 3 * (ttB.N b : Int) ≤ 100000000) : ACall En 54 [.ag (bC (mB b k)), .i .i64 k] [] [.i .i64 (mBK b k)] [] := by
 have e1 := dz_ b.expr
 have e2 := dz_ b.thn
 have h2 : k + 3 * (ttE.N b.expr + ttE.N b.thn : Int) ≤ 100000000 := h1
 have hk := (d8_ b.expr.kids k).1
 rw [em_] at hk
 have hp : 0 ≤ (mkL b.thn.kids (mkL b.expr.kids k).2).2 := by rw [(d8_ _ _).1]; omega
 refine an_ (fn := Tryz.f54) [] Tryz.func54 rfl rfl (by simp) fun C => ?_
 rw [bb_]
 simp only [Tryz.ntmps54, T7_, List.length_nil, Nat.reduceAdd, Nat.reduceSub, List.replicate_succ, List.replicate_zero, List.cons_append, List.nil_append, bu_]
 refine .seq (.rgn [] (by simp only [go_sem, seval, hr_, ek_]; rfl) ?_ ?_)
 ·first | trivial | simp
 refine .seq (.rgn [br_ (pa_ b.expr k h0 (by omega))] (by simp only [go_sem, seval, hr_, ek_]; rfl) ?_ ?_)
 ·first | trivial | simp
 refine .seq (.seq (.rgn [] (by simp only [go_sem, seval, hr_, ek_]; rfl) ?_ ?_))
 ·first | trivial | simp
 refine .condB (by simp only [go_sem, seval, hr_, ek_]; rfl) (by simp only [go_sem, seval, hr_, ek_]) (fun h10 => ?_) (fun h10 => ?_)
 ·simp only [T3_] at h10; omega
 ·refine .skip (.seq (.rgn [br_ (pa_ b.thn (mkL b.expr.kids k).2 (by omega) (by omega))] (by simp only [go_sem, seval, hr_, ek_]; rfl) ?_ ?_))
  ·first | trivial | simp
  refine .seq (.seq (.rgn [] (by simp only [go_sem, seval, hr_, ek_]; rfl) ?_ ?_))
  ·first | trivial | simp
  refine .condB (by simp only [go_sem, seval, hr_, ek_]; rfl) (by simp only [go_sem, seval, hr_, ek_]) (fun h16 => ?_) (fun h16 => ?_)
  ·simp only [T3_] at h16; omega
  ·refine .skip (.seq (.rgn [] (by simp only [go_sem, seval, hr_, ek_]; rfl) ?_ ?_))
   ·first | trivial | simp
   refine .ret ⟨.inr rfl, ?_⟩
   exact Out.plain (by simp only [Tryz.results54]; rfl) (by simp only [ba_, bs_, go_sem, seval, hr_, ek_] <;> (split <;> rfl)) (by simp only [bq_, go_sem, seval, hr_, ek_] <;> (rfl)) (by simp only [go_sem, seval, hr_, ek_])
end
section
open Go.RowKit
set_option maxRecDepth 100000
set_option maxHeartbeats 8000000
theorem l6_ {l : List E} {k : Nat} (h : k < l.length) : (cr_ l).getD k E0 = bare (l.getD k E0) := by
 rw [jb_]; simp [T8_, T6_ h]
mutual
theorem is_ : ∀ e : E, ttE.N (bare e) ≤ ttE.N e
 | .mk k n s kids => by
  simp only [bare]
  by_cases hk : k = 4
  ·rw [if_pos hk]
   cases kids with
   | nil => simp only [nz_]; exact Nat.le_refl _
   | cons a r =>
    simp only [nz_]
    have := is_ a
    rw [dz_ (.mk k n s (a :: r))]
    simp only [E.kids, TT.NL]; omega
  ·rw [if_neg hk, dz_, dz_]
   have := m3_ kids
   simp only [E.kids]; omega
theorem m3_ : ∀ l : List E, ttE.NL (cr_ l) ≤ ttE.NL l
 | [] => by simp only [cr_]; exact Nat.le_refl _
 | e :: r => by
  have := is_ e
  have := m3_ r
  simp only [cr_, TT.NL]; omega
end
def jm_ (l : List E) (k : Nat) : List (List V) := (ttE.OR 1000 (cr_ l)).take k ++ (eR l).drop k
theorem aax_ {l : List E} {k : Nat} (h : k ≤ l.length) : (jm_ l k).length = l.length := by
 unfold jm_; rw [T2_, List.length_take, ttE.OR_len, c6_, List.length_drop, fl_]; omega
theorem yf_ (l : List E) : jm_ l 0 = eR l := by simp [jm_]
theorem si_ {l : List E} {k : Nat} (h : l.length ≤ k) : jm_ l k = ttE.OR 1000 (cr_ l) := by
 unfold jm_; rw [T1_ (by rw [ttE.OR_len, c6_]; exact h), List.drop_of_length_le (by rw [fl_]; exact h), List.append_nil]
theorem cp_ (l : List E) (k j : Nat) : ((jm_ l k).getD j []).drop 4 = [] := by
 rw [T8_]
 cases h : (jm_ l k)[j]? with
 | none => simp
 | some r =>
  have hm := List.mem_of_getElem? h
  have : r.length = 4 := by
   unfold jm_ at hm
   rcases List.mem_append.1 hm with hm | hm
   ·exact ttE.OR_rows (n := 4) (fun _ _ => rfl) _ _ r (List.mem_of_mem_take hm)
   ·exact rc_ r (List.mem_of_mem_drop hm)
  simp only [Option.getD_some]; exact List.drop_of_length_le (by omega)
theorem ac4_ {l : List E} {k : Nat} (h : k < l.length) : (jm_ l k).set k [.i .i64 (bare (l.getD k E0)).kind, .i .i64 (bare (l.getD k E0)).n, .s (bare (l.getD k E0)).s, .ow (1000 + ttE.NL ((cr_ l).take k)) 4 0 (bare (l.getD k E0)).kids.length] = jm_ l (k + 1) := by
 have hb : k < (cr_ l).length := by rw [c6_]; exact h
 have e : [.i .i64 (bare (l.getD k E0)).kind, .i .i64 (bare (l.getD k E0)).n, .s (bare (l.getD k E0)).s, .ow (1000 + ttE.NL ((cr_ l).take k)) 4 0 (bare (l.getD k E0)).kids.length] = (ttE.OR 1000 (cr_ l)).getD k [] := by
  rw [ttE.OR_get (d := E0) hb, l6_ h]; rfl
 have hl : ((ttE.OR 1000 (cr_ l)).take k).length = k := by rw [List.length_take, ttE.OR_len]; omega
 rw [e]
 unfold jm_
 rw [List.set_append_right _ _ (by omega), hl, Nat.sub_self, List.drop_eq_getElem_cons (by rw [fl_]; exact h), List.set_cons_zero, List.take_add_one, T6_ (by rw [ttE.OR_len]; exact hb), T8_, T6_ (by rw [ttE.OR_len]; exact hb)]
 simp only [Option.getD_some, Option.toList_some, List.append_assoc, List.singleton_append]
theorem acv_ {l : List E} {k : Nat} {u : Nat → Bool} (h : ∀ i, i < ttE.NL ((cr_ l).take k) → u (1000 + i) = true) : ay_ u (jm_ l k) = true := by
 unfold jm_
 rw [in_]
 intro r hr
 rcases List.mem_append.1 hr with hr | hr
 ·rw [ttE.OR_take'] at hr
  exact in_.1 (ttE.BL_inn _ _ u h).1 r hr
 ·have := gv_ u (eR l) (f5_ l)
  exact in_.1 this r (List.mem_of_mem_drop hr)
theorem vp_ (c : Nat) (bs : List Blk) : (dx_ c bs).map (·.1) = List.range' c bs.length := by
 unfold dx_; rw [List.map_fst_zip (by simp)]
theorem wc_ : ∀ {X : List Blk} {k : Nat} {p : Nat × Blk}, p ∈ bu_ k X → p.1 < k + X.length
 | [], _, _, h => by simp [bu_] at h
 | x :: X, k, p, h => by
  simp only [bu_, List.mem_cons] at h
  simp only [T7_]
  rcases h with rfl | h
  ·simp only []; omega
  ·have := wc_ h; omega
theorem yu_ {A B : List Blk} {bx b : Blk} {c i : Nat} (hc : c = 1000 + A.length) (h : (A ++ B)[i]? = some b) : bf_ (wrL (bu_ 1000 A ++ [(15, bx)]) (dx_ c B)) (1000 + i) = some b := by
 rw [mi_ B _ (fun p hp => by
  rcases List.mem_append.1 hp with hp | hp
  ·exact .inl (by have := wc_ hp; omega)
  ·rw [List.mem_singleton] at hp; subst hp; exact .inl (by simp only []; omega)), db_, db_, at_]
 by_cases hi : i < A.length
 ·rw [List.getElem?_append_left hi] at h; rw [h]; rfl
 ·rw [List.getElem?_append_right (by omega)] at h
  rw [List.getElem?_eq_none (by omega), as_, if_neg (by omega), p3_, show 1000 + i = c + (i - A.length) by omega, at_, h]; rfl
theorem qm_ {b1 b2 b3 x b : Blk} {X : List Blk} {i : Nat} (h : (x :: X)[i]? = some b) : bf_ ((11, b1) :: (12, b2) :: (13, b3) :: (999, x) :: bu_ 1000 X) (999 + i) = some b := by
 rw [as_, if_neg (by omega), as_, if_neg (by omega), as_, if_neg (by omega), as_]
 cases i with
 | zero => rw [if_pos (by omega)]; simpa using h
 | succ i => rw [if_neg (by omega), show 999 + (i + 1) = 1000 + i by omega, at_]; simpa using h
theorem add_ {l : List E} {k : Nat} {b1 b2 b3 b4 bx : Blk} (hk : k < l.length) : ay_ (us (11 :: 12 :: 13 :: 999 :: List.range' 1000 (ttE.NL ((cr_ l).take (k + 1))))) (jm_ l (k + 1)) = true ∧ a2_ ((11, b1) :: (12, b2) :: (13, b3) :: (999, b4) :: wrL (bu_ 1000 (ttE.BL 1000 ((cr_ l).take k)) ++ [(15, bx)]) (dx_ (1000 + ttE.NL ((cr_ l).take k)) (ttE.B (1000 + ttE.NL ((cr_ l).take k)) (bare (l.getD k E0))))) (11 :: 12 :: 13 :: 999 :: List.range' 1000 (ttE.NL ((cr_ l).take (k + 1)))) (bu_ 1000 (ttE.BL 1000 ((cr_ l).take (k + 1)))) := by
 have hkb : k < (cr_ l).length := by rw [c6_]; exact hk
 have hU : ∀ i, i < ttE.NL ((cr_ l).take (k + 1)) → us (11 :: 12 :: 13 :: 999 :: List.range' 1000 (ttE.NL ((cr_ l).take (k + 1)))) (1000 + i) = true := fun i hi => by
  simp only [us, List.contains_eq_mem, Bool.or_eq_true, T3_, List.mem_cons, List.mem_range'_1]
  exact .inr (.inr (.inr (.inr (.inr ⟨by omega, by omega⟩))))
 refine ⟨acv_ hU, k3_ fun i b hb => ?_⟩
 have hi : i < ttE.NL ((cr_ l).take (k + 1)) := by rw [← ttE.BL_len _ 1000]; exact (List.getElem?_eq_some_iff.1 hb).1
 refine ⟨?_, hU i hi, (ttE.BL_inn _ 1000 _ hU).2 b (List.mem_of_getElem? hb)⟩
 rw [as_, if_neg (by omega), as_, if_neg (by omega), as_, if_neg (by omega), as_, if_neg (by omega)]
 rw [ttE.BL_take (d := E0) hkb, l6_ hk] at hb
 exact yu_ (by rw [ttE.BL_len]) hb
theorem sh_ {l : List E} {k : Nat} (hk : k < l.length) : ttE.NL ((cr_ l).take k) + ttE.N (bare (l.getD k E0)) ≤ ttE.NL l := by
 have h1 := ttE.NL_le (cr_ l) (k + 1)
 rw [ttE.NL_take (d := E0) (by rw [c6_]; exact hk), l6_ hk] at h1
 exact Nat.le_trans h1 (m3_ l)
theorem vd_ {l : List E} {k : Nat} (hk : k < l.length) (hn : ttE.NL l ≤ 10000000) : ((List.range' (1000 + ttE.NL ((cr_ l).take k)) (ttE.B (1000 + ttE.NL ((cr_ l).take k)) (bare (l.getD k E0))).length).all fun x => !(decide (x < 10) || decide (1000000000 ≤ x) || (x == 11 || (x == 12 || (x == 13 || (x == 999 || (List.range' 1000 (ttE.NL ((cr_ l).take k)) ++ [15]).contains x)))))) = true := by
 have q := sh_ hk
 rw [ttE.len, List.all_eq_true]
 intro x hx
 rw [List.mem_range'_1] at hx
 simp only [Bool.not_eq_true', Bool.or_eq_false_iff, T4_, List.contains_eq_mem, beq_eq_false_iff_ne, List.mem_append, List.mem_range'_1, List.mem_singleton, not_or]
 omega
theorem t6_ {l : List E} (hk : 0 < l.length) (hn : ttE.NL l ≤ 10000000) : ((List.range' 999 (ttE.B 999 (bare (l.getD 0 E0))).length).all fun x => !(decide (x < 10) || decide (1000000000 ≤ x) || (x == 11 || x == 12))) = true := by
 have q := sh_ hk
 rw [ttE.len, List.all_eq_true]
 intro x hx
 rw [List.mem_range'_1] at hx
 simp only [Bool.not_eq_true', Bool.or_eq_false_iff, T4_, beq_eq_false_iff_ne]
 omega
theorem aan_ {e : E} (h : e.kind ≠ 4) : ttE.B 999 (bare e) = ⟨33, 4, ttE.OR 1000 (cr_ e.kids)⟩ :: ttE.BL 1000 (cr_ e.kids) := by rw [kw_, fy_ h]; rfl
def af3_ (e : E) : Prop := ACall En 172 [.ag (eC e)] [] [.ag (ttE.O 0 (bare e))] (ttE.B 0 (bare e))
theorem nj_ (e : E) : wf e = true → sm e = true → ttE.N e ≤ 10000000 → af3_ e := by
 induction e using E.ind' with
 | h e ih =>
 intro hw hs hn
 obtain ⟨a1, a2, a3⟩ := d2_ hs
 obtain ⟨w1, w2⟩ := r3_ hw
 have a4 := nb_ hs
 have hn2 : ttE.NL e.kids ≤ 10000000 := by rw [dz_] at hn; omega
 have hsub : ∀ x ∈ e.kids, af3_ x := fun x hx => ih x hx (jj_ w2 x hx) (c0_ a3 x hx) (Nat.le_trans (ttE.N_mem hx) hn2)
 have hbN := m3_ e.kids
 have hN := fun k => ttE.NL_le (cr_ e.kids) k
 refine an_ (fn := Tryz.f172) (List.range' 999 (ttE.N (bare e))) Tryz.func172 rfl rfl (by simp) fun C => ?_
 rw [bb_]
 simp only [Tryz.ntmps172, T7_, List.length_nil, Nat.reduceAdd, Nat.reduceSub, List.replicate_succ, List.replicate_zero, List.cons_append, List.nil_append, bu_]
 refine .seq (.rgn [] (by simp only [go_sem, seval, cp_, bz_, a8_, av_, ap_, aj_, ag_, a6_, ax_, bc_, a7_, bm_]; rfl) ?_ ?_)
 ·first | trivial | simp
 refine .seq (.seq (.rgn [] (by simp only [go_sem, seval, cp_, bz_, a8_, av_, ap_, aj_, ag_, a6_, ax_, bc_, a7_, bm_]; rfl) ?_ ?_))
 ·first | trivial | simp
 refine .condB (by simp only [go_sem, seval, cp_, bz_, a8_, av_, ap_, aj_, ag_, a6_, ax_, bc_, a7_, bm_]; rfl) (by simp only [go_sem, seval, cp_, bz_, a8_, av_, ap_, aj_, ag_, a6_, ax_, bc_, a7_, bm_]) (fun h8 => ?_) (fun h8 => ?_)
 ·refine .seq (.rgn [a8_ [] 999 (hsub (e.kids.getD 0 E0) (b2_ (w1 (by simpa using h8)))) (ttE.seg 999 (bare (e.kids.getD 0 E0)))] (by simp only [go_sem, seval, cp_, bz_, a8_, av_, ap_, aj_, ag_, a6_, ax_, bc_, a7_, bm_, c7_ (w1 (by simpa using h8))]; rfl) ?_ ?_)
  ·have p := w1 (by simpa using h8); exact ⟨by omega, ⟨ao_ _ _, rfl, (ttE.own _ _).2⟩, t6_ p hn2⟩
  refine .ret ⟨.inr rfl, ?_⟩
  first | exact ttE.out_one (by simp only [Tryz.results172]; rfl) (by simp only [ba_, bs_, go_sem, seval, cp_, bz_, a8_, av_, ap_, aj_, ag_, a6_, ax_, bc_, a7_, bm_]) (by simp only [bq_, go_sem, seval, cp_, bz_, a8_, av_, ap_, aj_, ag_, a6_, ax_, bc_, a7_, bm_]; rw [fv_ (e := e) (by simpa using h8) (w1 (by simpa using h8))]) (by intro i b hb; rw [fv_ (e := e) (by simpa using h8) (w1 (by simpa using h8))] at hb; show bf_ _ _ = _; rw [as_, if_neg (by omega), as_, if_neg (by omega), at_]; exact hb) | exact ttE.out_one (by simp only [Tryz.results172]; rfl) (by simp only [ba_, bs_, go_sem, seval, cp_, bz_, a8_, av_, ap_, aj_, ag_, a6_, ax_, bc_, a7_, bm_]) (by simp only [bq_, go_sem, seval, cp_, bz_, a8_, av_, ap_, aj_, ag_, a6_, ax_, bc_, a7_, bm_]; rw [fy_ (e := e) (by simpa using h8)]; simp only [E.kind, E.n, E.s, E.kids, c6_]) (by intro i b hb; rw [aan_ (by simpa using h8)] at hb; simp only [T4_] at h28; show bf_ _ _ = _; rw [si_ (by omega), T1_ (by rw [c6_]; omega)]; exact qm_ hb)
 ·refine .skip (.seq (.rgnD [eg_ [] [999] (xb_ e.kids a4)] enM (by simp only [go_sem, seval, cp_, bz_, a8_, av_, ap_, aj_, ag_, a6_, ax_, bc_, a7_, bm_]; rfl) (by rfl) ?_ ?_))
  ·first | trivial | simp
  refine .seq (.seq (.rgn [] (by simp only [go_sem, seval, cp_, bz_, a8_, av_, ap_, aj_, ag_, a6_, ax_, bc_, a7_, bm_]; rfl) ?_ ?_))
  ·first | trivial | simp
  refine .block (.loopK (fun k : Nat => ⟨[.no, .pt 11 4 0 0, .pt 12 4 0 0, .pt 13 4 0 0, .no, .no, .no, .no, .no, .no, .no, .no, .no, .no, .no, .no, .no, .no, .no, .no, .no, .no, .no, .no, .no, .sl false (eR e.kids), .i .i64 e.kids.length, .i .i64 k, .no, .no, .no, .no, .no, .no, .no, .no, .no, .no, .no, .no], bf_ ((11, ⟨33, 4, [eC e]⟩) :: (12, ⟨33, 4, [[.i .i64 0, .i .i64 0, .s [], .sl true []]]⟩) :: (13, ⟨33, 4, [[.i .i64 e.kind, .i .i64 e.n, .s e.s, .ow 999 4 0 e.kids.length]]⟩) :: (999, ⟨33, 4, jm_ e.kids k⟩) :: bu_ 1000 (ttE.BL 1000 ((cr_ e.kids).take k))), us ([11, 12, 13, 999] ++ List.range' 1000 (ttE.NL ((cr_ e.kids).take k)))⟩) (fun k : Nat => k ≤ e.kids.length) (fun k : Nat => e.kids.length - k) (0) ?_ ?_ (fun k hI => ?_))
  ·simp
  ·exact Can.weak (Weak.lit (by simp only [go_sem, seval, cp_, bz_, a8_, av_, ap_, aj_, ag_, a6_, ax_, bc_, a7_, bm_, a2_, leV, az_, ay_, V.inn, us, T9_, Ta_] <;> (simp)) (by simp only [go_sem, seval, cp_, bz_, a8_, av_, ap_, aj_, ag_, a6_, ax_, bc_, a7_, bm_, a2_, leV, az_, ay_, V.inn, us, T9_, Ta_]) (by simp only [go_sem, seval, cp_, bz_, a8_, av_, ap_, aj_, ag_, a6_, ax_, bc_, a7_, bm_, a2_, leV, az_, ay_, V.inn, us, T9_, Ta_] <;> (rw [yf_]; exact ⟨rfl, gv_ _ _ (f5_ _), by simp only [TT.BL, bu_, a2_]⟩)))
  refine .seq (.rgn [] (by simp only [go_sem, seval, cp_, bz_, a8_, av_, ap_, aj_, ag_, a6_, ax_, bc_, a7_, bm_]; rfl) ?_ ?_)
  ·first | trivial | simp
  refine .seq (.condB (by simp only [go_sem, seval, cp_, bz_, a8_, av_, ap_, aj_, ag_, a6_, ax_, bc_, a7_, bm_]; rfl) (by simp only [go_sem, seval, cp_, bz_, a8_, av_, ap_, aj_, ag_, a6_, ax_, bc_, a7_, bm_]) (fun h28 => ?_) (fun h28 => ?_))
  ·refine .skip (.seq (.block (.seq (.rgn [] (by simp only [go_sem, seval, cp_, bz_, a8_, av_, ap_, aj_, ag_, a6_, ax_, bc_, a7_, bm_, c7_ (show k < e.kids.length by simpa using h28)]; rfl) ?_ ?_))))
   ·simp only [T3_] at h28; exact ⟨⟨by omega, by omega⟩, by simp [List.mem_range'_1]⟩
   refine .rgnD [a8_ [] (1000 + ttE.NL ((cr_ e.kids).take k)) (hsub (e.kids.getD k E0) (b2_ (by simpa using h28))) (ttE.seg (1000 + ttE.NL ((cr_ e.kids).take k)) (bare (e.kids.getD k E0)))] enM (by simp only [go_sem, seval, cp_, bz_, a8_, av_, ap_, aj_, ag_, a6_, ax_, bc_, a7_, bm_, ac4_ (show k < e.kids.length by simpa using h28), aax_ hI]; rfl) (by exact x3_ 1000 4 (fun j i hj hi => by (obtain _ | _ | _ | _ | _ | _ | _ | j := j) <;> first | exact absurd rfl hj | (simp at hi; done) | (simp only [List.map, List.getElem?_cons_zero, List.getElem?_cons_succ, Option.some.injEq] at hi; subst hi; refine ⟨?_, ?_⟩ <;> simp [ds_])) (fun i hi => by simp only [List.map, List.getElem?_cons_zero, List.getElem?_cons_succ, Option.some.injEq] at hi; subst hi; refine ⟨?_, ?_⟩ <;> (intro x hx; simp only [ds_, List.nil_append, vp_, List.mem_range'_1] at hx; omega)) rfl) ?_ ?_
   ·simp only [T3_] at h28; have hk : k < e.kids.length := (by omega); exact ⟨⟨⟨⟨ao_ _ _, rfl, (ttE.own _ _).2⟩, vd_ hk hn2⟩, by omega, by omega⟩, hk⟩
   refine .rgn [] (by simp only [go_sem, seval, cp_, bz_, a8_, av_, ap_, aj_, ag_, a6_, ax_, bc_, a7_, bm_]; rfl) ?_ ?_
   ·first | trivial | simp
   refine Exists.intro (k + 1) ⟨?_, ?_, ?_⟩
   ·simp at h28; omega
   ·simp at h28; omega
   exact Can.weak (Weak.lit (by simp only [go_sem, seval, cp_, bz_, a8_, av_, ap_, aj_, ag_, a6_, ax_, bc_, a7_, bm_, a2_, leV, az_, ay_, V.inn, us, T9_, Ta_] <;> (rw [bv_ (by simp at h28; omega) (by simp at h28; omega)]; simp)) (by simp only [go_sem, seval, cp_, bz_, a8_, av_, ap_, aj_, ag_, a6_, ax_, bc_, a7_, bm_, a2_, leV, az_, ay_, V.inn, us, T9_, Ta_]) (by simp only [go_sem, seval, cp_, bz_, a8_, av_, ap_, aj_, ag_, a6_, ax_, bc_, a7_, bm_, a2_, leV, az_, ay_, V.inn, us, T9_, Ta_] <;> (exact add_ (by simpa using h28))))
  ·refine .exit (.seq (.rgn [] (by simp only [go_sem, seval, cp_, bz_, a8_, av_, ap_, aj_, ag_, a6_, ax_, bc_, a7_, bm_]; rfl) ?_ ?_))
   ·first | trivial | simp
   refine .ret ⟨.inr rfl, ?_⟩
   first | exact ttE.out_one (by simp only [Tryz.results172]; rfl) (by simp only [ba_, bs_, go_sem, seval, cp_, bz_, a8_, av_, ap_, aj_, ag_, a6_, ax_, bc_, a7_, bm_]) (by simp only [bq_, go_sem, seval, cp_, bz_, a8_, av_, ap_, aj_, ag_, a6_, ax_, bc_, a7_, bm_]; rw [fv_ (e := e) (by simpa using h8) (w1 (by simpa using h8))]) (by intro i b hb; rw [fv_ (e := e) (by simpa using h8) (w1 (by simpa using h8))] at hb; show bf_ _ _ = _; rw [as_, if_neg (by omega), as_, if_neg (by omega), at_]; exact hb) | exact ttE.out_one (by simp only [Tryz.results172]; rfl) (by simp only [ba_, bs_, go_sem, seval, cp_, bz_, a8_, av_, ap_, aj_, ag_, a6_, ax_, bc_, a7_, bm_]) (by simp only [bq_, go_sem, seval, cp_, bz_, a8_, av_, ap_, aj_, ag_, a6_, ax_, bc_, a7_, bm_]; rw [fy_ (e := e) (by simpa using h8)]; simp only [E.kind, E.n, E.s, E.kids, c6_]) (by intro i b hb; rw [aan_ (by simpa using h8)] at hb; simp only [T4_] at h28; show bf_ _ _ = _; rw [si_ (by omega), T1_ (by rw [c6_]; omega)]; exact qm_ hb)
end
section
open Go.RowKit
set_option maxRecDepth 100000
set_option maxHeartbeats 8000000
theorem b7_ {l c0 d : Nat} {b b1 : Blk} {L : List (Nat × Blk)} (h : l < c0) : e8_ ((l, b1) :: L) (c0 + d) b = (l, b1) :: e8_ L (c0 + d) b := m2_ (by omega)
theorem b0_ {k c : Nat} {X : List Blk} {b : Blk} (h : c = k + X.length) : e8_ (bu_ k X) c b = bu_ k (X ++ [b]) := by rw [h, up_]
theorem md_ {s : Sl} (h : s.kind ≠ 0) (k : s.kind = 3) : bof s = ⟨s.kind, s.name, bare s.expr, bare s.thn⟩ := by simp [bof, k]
theorem mj_ {s : Sl} (h : s.kind ≠ 0) (k : s.kind ≠ 3) : bof s = ⟨s.kind, s.name, bare s.expr, E0⟩ := by simp [bof, h, k]
theorem me_ {s : Sl} (h : s.kind = 0) : bof s = ⟨s.kind, s.name, E0, E0⟩ := by simp [bof, h]
theorem ja_ {b1 b2 b3 x y b : Blk} {i : Nat} (h : ([x] ++ [y])[i]? = some b) : bf_ [(11, b1), (12, b2), (13, b3), (1000, x), (1001, y)] (1000 + i) = some b := by
 rw [as_, if_neg (by omega), as_, if_neg (by omega), as_, if_neg (by omega)]
 match i, h with
 | 0, h => simpa [bf_] using h
 | 1, h => simpa [bf_] using h
theorem nn_ {b1 b2 x y b : Blk} {i : Nat} (h : ([x] ++ [y])[i]? = some b) : bf_ [(11, b1), (12, b2), (1000, x), (1001, y)] (1000 + i) = some b := by
 rw [as_, if_neg (by omega), as_, if_neg (by omega)]
 match i, h with
 | 0, h => simpa [bf_] using h
 | 1, h => simpa [bf_] using h
theorem ga_ {b1 b2 b3 b : Blk} {X : List Blk} {i : Nat} (h : X[i]? = some b) : bf_ ((11, b1) :: (12, b2) :: (13, b3) :: bu_ 1000 X) (1000 + i) = some b := by
 rw [as_, if_neg (by omega), as_, if_neg (by omega), as_, if_neg (by omega), at_]; exact h
theorem pp_ {b1 b2 b : Blk} {X : List Blk} {i : Nat} (h : X[i]? = some b) : bf_ ((11, b1) :: (12, b2) :: bu_ 1000 X) (1000 + i) = some b := by
 rw [as_, if_neg (by omega), as_, if_neg (by omega), at_]; exact h
theorem aae_ (s : Sl) (hs : fg_ s = true) (w1 : wf s.expr = true) (w2 : wf s.thn = true) (hn : ttS.N s ≤ 10000000) : ACall En 110 [.ag (sC s)] [] [.ag (ttB.O 0 (bof s))] (ttB.B 0 (bof s)) := by
 obtain ⟨s1, s2, s3, s4⟩ := d9_ hs
 have hn' : ttE.N s.expr + ttE.N s.thn ≤ 10000000 := hn
 have n1 := is_ s.expr
 have n2 := is_ s.thn
 have L1 := ttE.len (bare s.expr) 1000
 refine an_ (fn := Tryz.f110) (List.range' 1000 (ttB.N (bof s))) Tryz.func110 rfl rfl (by simp) fun C => ?_
 rw [bb_]
 simp only [Tryz.ntmps110, T7_, List.length_nil, Nat.reduceAdd, Nat.reduceSub, List.replicate_succ, List.replicate_zero, List.cons_append, List.nil_append, bu_]
 refine .seq (.rgn [] (by simp only [go_sem, seval, aa_, bm_, bz_, a8_, av_, aj_, ap_, ag_, b6_ (show 1000 + ttE.N (bare s.expr) = 1000 + (ttE.B 1000 (bare s.expr)).length by rw [ttE.len]), b7_, b0_ (show 1000 + ttE.N (bare s.expr) = 1000 + (ttE.B 1000 (bare s.expr)).length by rw [ttE.len]), (show (1000 + ttE.N (bare s.expr) = 11) = False by simp only [eq_iff_iff, iff_false]; omega), (show (1000 + ttE.N (bare s.expr) = 12) = False by simp only [eq_iff_iff, iff_false]; omega), (show (1000 + ttE.N (bare s.expr) = 13) = False by simp only [eq_iff_iff, iff_false]; omega)]; rfl) ?_ ?_)
 ·(first | trivial | (simp; done) | (and_intros <;> first | trivial | rfl | exact ao_ _ _ | exact (ttE.own _ _).2 | omega | (simp; done) | (simp only [TT.len]; rw [List.all_eq_true]; intro x hx; rw [List.mem_range'_1] at hx; simp [List.mem_range'_1]; omega) | (simp; omega)))
 refine .seq (.rgn [] (by simp only [go_sem, seval, aa_, bm_, bz_, a8_, av_, aj_, ap_, ag_, b6_ (show 1000 + ttE.N (bare s.expr) = 1000 + (ttE.B 1000 (bare s.expr)).length by rw [ttE.len]), b7_, b0_ (show 1000 + ttE.N (bare s.expr) = 1000 + (ttE.B 1000 (bare s.expr)).length by rw [ttE.len]), (show (1000 + ttE.N (bare s.expr) = 11) = False by simp only [eq_iff_iff, iff_false]; omega), (show (1000 + ttE.N (bare s.expr) = 12) = False by simp only [eq_iff_iff, iff_false]; omega), (show (1000 + ttE.N (bare s.expr) = 13) = False by simp only [eq_iff_iff, iff_false]; omega)]; rfl) ?_ ?_)
 ·(first | trivial | (simp; done) | (and_intros <;> first | trivial | rfl | exact ao_ _ _ | exact (ttE.own _ _).2 | omega | (simp; done) | (simp only [TT.len]; rw [List.all_eq_true]; intro x hx; rw [List.mem_range'_1] at hx; simp [List.mem_range'_1]; omega) | (simp; omega)))
 refine .seq (.seq (.rgn [] (by simp only [go_sem, seval, aa_, bm_, bz_, a8_, av_, aj_, ap_, ag_, b6_ (show 1000 + ttE.N (bare s.expr) = 1000 + (ttE.B 1000 (bare s.expr)).length by rw [ttE.len]), b7_, b0_ (show 1000 + ttE.N (bare s.expr) = 1000 + (ttE.B 1000 (bare s.expr)).length by rw [ttE.len]), (show (1000 + ttE.N (bare s.expr) = 11) = False by simp only [eq_iff_iff, iff_false]; omega), (show (1000 + ttE.N (bare s.expr) = 12) = False by simp only [eq_iff_iff, iff_false]; omega), (show (1000 + ttE.N (bare s.expr) = 13) = False by simp only [eq_iff_iff, iff_false]; omega)]; rfl) ?_ ?_))
 ·(first | trivial | (simp; done) | (and_intros <;> first | trivial | rfl | exact ao_ _ _ | exact (ttE.own _ _).2 | omega | (simp; done) | (simp only [TT.len]; rw [List.all_eq_true]; intro x hx; rw [List.mem_range'_1] at hx; simp [List.mem_range'_1]; omega) | (simp; omega)))
 refine .condB (by simp only [go_sem, seval, aa_, bm_, bz_, a8_, av_, aj_, ap_, ag_, b6_ (show 1000 + ttE.N (bare s.expr) = 1000 + (ttE.B 1000 (bare s.expr)).length by rw [ttE.len]), b7_, b0_ (show 1000 + ttE.N (bare s.expr) = 1000 + (ttE.B 1000 (bare s.expr)).length by rw [ttE.len]), (show (1000 + ttE.N (bare s.expr) = 11) = False by simp only [eq_iff_iff, iff_false]; omega), (show (1000 + ttE.N (bare s.expr) = 12) = False by simp only [eq_iff_iff, iff_false]; omega), (show (1000 + ttE.N (bare s.expr) = 13) = False by simp only [eq_iff_iff, iff_false]; omega)]; rfl) (by simp only [go_sem, seval, aa_, bm_, bz_, a8_, av_, aj_, ap_, ag_, b6_ (show 1000 + ttE.N (bare s.expr) = 1000 + (ttE.B 1000 (bare s.expr)).length by rw [ttE.len]), b7_, b0_ (show 1000 + ttE.N (bare s.expr) = 1000 + (ttE.B 1000 (bare s.expr)).length by rw [ttE.len]), (show (1000 + ttE.N (bare s.expr) = 11) = False by simp only [eq_iff_iff, iff_false]; omega), (show (1000 + ttE.N (bare s.expr) = 12) = False by simp only [eq_iff_iff, iff_false]; omega), (show (1000 + ttE.N (bare s.expr) = 13) = False by simp only [eq_iff_iff, iff_false]; omega)]) (fun h11 => ?_) (fun h11 => ?_)
 ·refine .rgn [a8_ [] 1000 (nj_ s.expr w1 s3 (by omega)) (ttE.seg 1000 (bare s.expr))] (by simp only [go_sem, seval, aa_, bm_, bz_, a8_, av_, aj_, ap_, ag_, b6_ (show 1000 + ttE.N (bare s.expr) = 1000 + (ttE.B 1000 (bare s.expr)).length by rw [ttE.len]), b7_, b0_ (show 1000 + ttE.N (bare s.expr) = 1000 + (ttE.B 1000 (bare s.expr)).length by rw [ttE.len]), (show (1000 + ttE.N (bare s.expr) = 11) = False by simp only [eq_iff_iff, iff_false]; omega), (show (1000 + ttE.N (bare s.expr) = 12) = False by simp only [eq_iff_iff, iff_false]; omega), (show (1000 + ttE.N (bare s.expr) = 13) = False by simp only [eq_iff_iff, iff_false]; omega)]; rfl) ?_ ?_
  ·(first | trivial | (simp; done) | (and_intros <;> first | trivial | rfl | exact ao_ _ _ | exact (ttE.own _ _).2 | omega | (simp; done) | (simp only [TT.len]; rw [List.all_eq_true]; intro x hx; rw [List.mem_range'_1] at hx; simp [List.mem_range'_1]; omega) | (simp; omega)))
  refine .seq (.seq (.rgn [] (by simp only [go_sem, seval, aa_, bm_, bz_, a8_, av_, aj_, ap_, ag_, b6_ (show 1000 + ttE.N (bare s.expr) = 1000 + (ttE.B 1000 (bare s.expr)).length by rw [ttE.len]), b7_, b0_ (show 1000 + ttE.N (bare s.expr) = 1000 + (ttE.B 1000 (bare s.expr)).length by rw [ttE.len]), (show (1000 + ttE.N (bare s.expr) = 11) = False by simp only [eq_iff_iff, iff_false]; omega), (show (1000 + ttE.N (bare s.expr) = 12) = False by simp only [eq_iff_iff, iff_false]; omega), (show (1000 + ttE.N (bare s.expr) = 13) = False by simp only [eq_iff_iff, iff_false]; omega)]; rfl) ?_ ?_))
  ·(first | trivial | (simp; done) | (and_intros <;> first | trivial | rfl | exact ao_ _ _ | exact (ttE.own _ _).2 | omega | (simp; done) | (simp only [TT.len]; rw [List.all_eq_true]; intro x hx; rw [List.mem_range'_1] at hx; simp [List.mem_range'_1]; omega) | (simp; omega)))
  refine .condB (by simp only [go_sem, seval, aa_, bm_, bz_, a8_, av_, aj_, ap_, ag_, b6_ (show 1000 + ttE.N (bare s.expr) = 1000 + (ttE.B 1000 (bare s.expr)).length by rw [ttE.len]), b7_, b0_ (show 1000 + ttE.N (bare s.expr) = 1000 + (ttE.B 1000 (bare s.expr)).length by rw [ttE.len]), (show (1000 + ttE.N (bare s.expr) = 11) = False by simp only [eq_iff_iff, iff_false]; omega), (show (1000 + ttE.N (bare s.expr) = 12) = False by simp only [eq_iff_iff, iff_false]; omega), (show (1000 + ttE.N (bare s.expr) = 13) = False by simp only [eq_iff_iff, iff_false]; omega)]; rfl) (by simp only [go_sem, seval, aa_, bm_, bz_, a8_, av_, aj_, ap_, ag_, b6_ (show 1000 + ttE.N (bare s.expr) = 1000 + (ttE.B 1000 (bare s.expr)).length by rw [ttE.len]), b7_, b0_ (show 1000 + ttE.N (bare s.expr) = 1000 + (ttE.B 1000 (bare s.expr)).length by rw [ttE.len]), (show (1000 + ttE.N (bare s.expr) = 11) = False by simp only [eq_iff_iff, iff_false]; omega), (show (1000 + ttE.N (bare s.expr) = 12) = False by simp only [eq_iff_iff, iff_false]; omega), (show (1000 + ttE.N (bare s.expr) = 13) = False by simp only [eq_iff_iff, iff_false]; omega)]) (fun h18 => ?_) (fun h18 => ?_)
  ·refine .rgn [a8_ [] (1000 + ttE.N (bare s.expr)) (nj_ s.thn w2 s4 (by omega)) (ttE.seg (1000 + ttE.N (bare s.expr)) (bare s.thn))] (by simp only [go_sem, seval, aa_, bm_, bz_, a8_, av_, aj_, ap_, ag_, b6_ (show 1000 + ttE.N (bare s.expr) = 1000 + (ttE.B 1000 (bare s.expr)).length by rw [ttE.len]), b7_, b0_ (show 1000 + ttE.N (bare s.expr) = 1000 + (ttE.B 1000 (bare s.expr)).length by rw [ttE.len]), (show (1000 + ttE.N (bare s.expr) = 11) = False by simp only [eq_iff_iff, iff_false]; omega), (show (1000 + ttE.N (bare s.expr) = 12) = False by simp only [eq_iff_iff, iff_false]; omega), (show (1000 + ttE.N (bare s.expr) = 13) = False by simp only [eq_iff_iff, iff_false]; omega)]; rfl) ?_ ?_
   ·(first | trivial | (simp; done) | (and_intros <;> first | trivial | rfl | exact ao_ _ _ | exact (ttE.own _ _).2 | omega | (simp; done) | (simp only [TT.len]; rw [List.all_eq_true]; intro x hx; rw [List.mem_range'_1] at hx; simp [List.mem_range'_1]; omega) | (simp; omega)))
   refine .seq (.rgn [] (by simp only [go_sem, seval, aa_, bm_, bz_, a8_, av_, aj_, ap_, ag_, b6_ (show 1000 + ttE.N (bare s.expr) = 1000 + (ttE.B 1000 (bare s.expr)).length by rw [ttE.len]), b7_, b0_ (show 1000 + ttE.N (bare s.expr) = 1000 + (ttE.B 1000 (bare s.expr)).length by rw [ttE.len]), (show (1000 + ttE.N (bare s.expr) = 11) = False by simp only [eq_iff_iff, iff_false]; omega), (show (1000 + ttE.N (bare s.expr) = 12) = False by simp only [eq_iff_iff, iff_false]; omega), (show (1000 + ttE.N (bare s.expr) = 13) = False by simp only [eq_iff_iff, iff_false]; omega)]; rfl) ?_ ?_)
   ·(first | trivial | (simp; done) | (and_intros <;> first | trivial | rfl | exact ao_ _ _ | exact (ttE.own _ _).2 | omega | (simp; done) | (simp only [TT.len]; rw [List.all_eq_true]; intro x hx; rw [List.mem_range'_1] at hx; simp [List.mem_range'_1]; omega) | (simp; omega)))
   refine .ret ⟨.inr rfl, ?_⟩
   first | (exfalso; simp at h11 h18; omega) | exact ttB.out_one (by simp only [Tryz.results110]; rfl) (by simp only [ba_, bs_, go_sem, seval, aa_, bm_, bz_, a8_, av_, aj_, ap_, ag_, b6_ (show 1000 + ttE.N (bare s.expr) = 1000 + (ttE.B 1000 (bare s.expr)).length by rw [ttE.len]), b7_, b0_ (show 1000 + ttE.N (bare s.expr) = 1000 + (ttE.B 1000 (bare s.expr)).length by rw [ttE.len]), (show (1000 + ttE.N (bare s.expr) = 11) = False by simp only [eq_iff_iff, iff_false]; omega), (show (1000 + ttE.N (bare s.expr) = 12) = False by simp only [eq_iff_iff, iff_false]; omega), (show (1000 + ttE.N (bare s.expr) = 13) = False by simp only [eq_iff_iff, iff_false]; omega)]) (by simp only [bq_, go_sem, seval, aa_, bm_, bz_, a8_, av_, aj_, ap_, ag_, b6_ (show 1000 + ttE.N (bare s.expr) = 1000 + (ttE.B 1000 (bare s.expr)).length by rw [ttE.len]), b7_, b0_ (show 1000 + ttE.N (bare s.expr) = 1000 + (ttE.B 1000 (bare s.expr)).length by rw [ttE.len]), (show (1000 + ttE.N (bare s.expr) = 11) = False by simp only [eq_iff_iff, iff_false]; omega), (show (1000 + ttE.N (bare s.expr) = 12) = False by simp only [eq_iff_iff, iff_false]; omega), (show (1000 + ttE.N (bare s.expr) = 13) = False by simp only [eq_iff_iff, iff_false]; omega)]; rw [md_ (by simpa using h11) (by simpa using h18)]; rfl) (by intro i b hb; rw [md_ (by simpa using h11) (by simpa using h18)] at hb; exact ga_ hb) | exact ttB.out_one (by simp only [Tryz.results110]; rfl) (by simp only [ba_, bs_, go_sem, seval, aa_, bm_, bz_, a8_, av_, aj_, ap_, ag_, b6_ (show 1000 + ttE.N (bare s.expr) = 1000 + (ttE.B 1000 (bare s.expr)).length by rw [ttE.len]), b7_, b0_ (show 1000 + ttE.N (bare s.expr) = 1000 + (ttE.B 1000 (bare s.expr)).length by rw [ttE.len]), (show (1000 + ttE.N (bare s.expr) = 11) = False by simp only [eq_iff_iff, iff_false]; omega), (show (1000 + ttE.N (bare s.expr) = 12) = False by simp only [eq_iff_iff, iff_false]; omega), (show (1000 + ttE.N (bare s.expr) = 13) = False by simp only [eq_iff_iff, iff_false]; omega)]) (by simp only [bq_, go_sem, seval, aa_, bm_, bz_, a8_, av_, aj_, ap_, ag_, b6_ (show 1000 + ttE.N (bare s.expr) = 1000 + (ttE.B 1000 (bare s.expr)).length by rw [ttE.len]), b7_, b0_ (show 1000 + ttE.N (bare s.expr) = 1000 + (ttE.B 1000 (bare s.expr)).length by rw [ttE.len]), (show (1000 + ttE.N (bare s.expr) = 11) = False by simp only [eq_iff_iff, iff_false]; omega), (show (1000 + ttE.N (bare s.expr) = 12) = False by simp only [eq_iff_iff, iff_false]; omega), (show (1000 + ttE.N (bare s.expr) = 13) = False by simp only [eq_iff_iff, iff_false]; omega)]; rw [mj_ (by simpa using h11) (by simpa using h18)]; rfl) (by intro i b hb; rw [mj_ (by simpa using h11) (by simpa using h18)] at hb; exact ga_ hb) | exact ttB.out_one (by simp only [Tryz.results110]; rfl) (by simp only [ba_, bs_, go_sem, seval, aa_, bm_, bz_, a8_, av_, aj_, ap_, ag_, b6_ (show 1000 + ttE.N (bare s.expr) = 1000 + (ttE.B 1000 (bare s.expr)).length by rw [ttE.len]), b7_, b0_ (show 1000 + ttE.N (bare s.expr) = 1000 + (ttE.B 1000 (bare s.expr)).length by rw [ttE.len]), (show (1000 + ttE.N (bare s.expr) = 11) = False by simp only [eq_iff_iff, iff_false]; omega), (show (1000 + ttE.N (bare s.expr) = 12) = False by simp only [eq_iff_iff, iff_false]; omega), (show (1000 + ttE.N (bare s.expr) = 13) = False by simp only [eq_iff_iff, iff_false]; omega)]) (by simp only [bq_, go_sem, seval, aa_, bm_, bz_, a8_, av_, aj_, ap_, ag_, b6_ (show 1000 + ttE.N (bare s.expr) = 1000 + (ttE.B 1000 (bare s.expr)).length by rw [ttE.len]), b7_, b0_ (show 1000 + ttE.N (bare s.expr) = 1000 + (ttE.B 1000 (bare s.expr)).length by rw [ttE.len]), (show (1000 + ttE.N (bare s.expr) = 11) = False by simp only [eq_iff_iff, iff_false]; omega), (show (1000 + ttE.N (bare s.expr) = 12) = False by simp only [eq_iff_iff, iff_false]; omega), (show (1000 + ttE.N (bare s.expr) = 13) = False by simp only [eq_iff_iff, iff_false]; omega)]; rw [me_ (by simpa using h11)]; rfl) (by intro i b hb; rw [me_ (by simpa using h11)] at hb; exact ja_ hb)
  ·refine .skip (.seq (.rgn [] (by simp only [go_sem, seval, aa_, bm_, bz_, a8_, av_, aj_, ap_, ag_, b6_ (show 1000 + ttE.N (bare s.expr) = 1000 + (ttE.B 1000 (bare s.expr)).length by rw [ttE.len]), b7_, b0_ (show 1000 + ttE.N (bare s.expr) = 1000 + (ttE.B 1000 (bare s.expr)).length by rw [ttE.len]), (show (1000 + ttE.N (bare s.expr) = 11) = False by simp only [eq_iff_iff, iff_false]; omega), (show (1000 + ttE.N (bare s.expr) = 12) = False by simp only [eq_iff_iff, iff_false]; omega), (show (1000 + ttE.N (bare s.expr) = 13) = False by simp only [eq_iff_iff, iff_false]; omega)]; rfl) ?_ ?_))
   ·(first | trivial | (simp; done) | (and_intros <;> first | trivial | rfl | exact ao_ _ _ | exact (ttE.own _ _).2 | omega | (simp; done) | (simp only [TT.len]; rw [List.all_eq_true]; intro x hx; rw [List.mem_range'_1] at hx; simp [List.mem_range'_1]; omega) | (simp; omega)))
   refine .can (Can.ownCell 12 9 (1000 + ttE.N (bare s.expr)) 33 4 (by simp [us, List.mem_range'_1] <;> omega) (by simp only [go_sem, seval, aa_, bm_, bz_, a8_, av_, aj_, ap_, ag_, b6_ (show 1000 + ttE.N (bare s.expr) = 1000 + (ttE.B 1000 (bare s.expr)).length by rw [ttE.len]), b7_, b0_ (show 1000 + ttE.N (bare s.expr) = 1000 + (ttE.B 1000 (bare s.expr)).length by rw [ttE.len]), (show (1000 + ttE.N (bare s.expr) = 11) = False by simp only [eq_iff_iff, iff_false]; omega), (show (1000 + ttE.N (bare s.expr) = 12) = False by simp only [eq_iff_iff, iff_false]; omega), (show (1000 + ttE.N (bare s.expr) = 13) = False by simp only [eq_iff_iff, iff_false]; omega)] <;> rfl) (by simp only [go_sem, seval, aa_, bm_, bz_, a8_, av_, aj_, ap_, ag_, b6_ (show 1000 + ttE.N (bare s.expr) = 1000 + (ttE.B 1000 (bare s.expr)).length by rw [ttE.len]), b7_, b0_ (show 1000 + ttE.N (bare s.expr) = 1000 + (ttE.B 1000 (bare s.expr)).length by rw [ttE.len]), (show (1000 + ttE.N (bare s.expr) = 11) = False by simp only [eq_iff_iff, iff_false]; omega), (show (1000 + ttE.N (bare s.expr) = 12) = False by simp only [eq_iff_iff, iff_false]; omega), (show (1000 + ttE.N (bare s.expr) = 13) = False by simp only [eq_iff_iff, iff_false]; omega)] <;> rfl) (by simp only [go_sem, seval, aa_, bm_, bz_, a8_, av_, aj_, ap_, ag_, b6_ (show 1000 + ttE.N (bare s.expr) = 1000 + (ttE.B 1000 (bare s.expr)).length by rw [ttE.len]), b7_, b0_ (show 1000 + ttE.N (bare s.expr) = 1000 + (ttE.B 1000 (bare s.expr)).length by rw [ttE.len]), (show (1000 + ttE.N (bare s.expr) = 11) = False by simp only [eq_iff_iff, iff_false]; omega), (show (1000 + ttE.N (bare s.expr) = 12) = False by simp only [eq_iff_iff, iff_false]; omega), (show (1000 + ttE.N (bare s.expr) = 13) = False by simp only [eq_iff_iff, iff_false]; omega)] <;> rfl) (by simp only [go_sem, seval, aa_, bm_, bz_, a8_, av_, aj_, ap_, ag_, b6_ (show 1000 + ttE.N (bare s.expr) = 1000 + (ttE.B 1000 (bare s.expr)).length by rw [ttE.len]), b7_, b0_ (show 1000 + ttE.N (bare s.expr) = 1000 + (ttE.B 1000 (bare s.expr)).length by rw [ttE.len]), (show (1000 + ttE.N (bare s.expr) = 11) = False by simp only [eq_iff_iff, iff_false]; omega), (show (1000 + ttE.N (bare s.expr) = 12) = False by simp only [eq_iff_iff, iff_false]; omega), (show (1000 + ttE.N (bare s.expr) = 13) = False by simp only [eq_iff_iff, iff_false]; omega)] <;> rfl)) ?_
   refine .ret ⟨.inr rfl, ?_⟩
   first | (exfalso; simp at h11 h18; omega) | exact ttB.out_one (by simp only [Tryz.results110]; rfl) (by simp only [ba_, bs_, go_sem, seval, aa_, bm_, bz_, a8_, av_, aj_, ap_, ag_, b6_ (show 1000 + ttE.N (bare s.expr) = 1000 + (ttE.B 1000 (bare s.expr)).length by rw [ttE.len]), b7_, b0_ (show 1000 + ttE.N (bare s.expr) = 1000 + (ttE.B 1000 (bare s.expr)).length by rw [ttE.len]), (show (1000 + ttE.N (bare s.expr) = 11) = False by simp only [eq_iff_iff, iff_false]; omega), (show (1000 + ttE.N (bare s.expr) = 12) = False by simp only [eq_iff_iff, iff_false]; omega), (show (1000 + ttE.N (bare s.expr) = 13) = False by simp only [eq_iff_iff, iff_false]; omega)]) (by simp only [bq_, go_sem, seval, aa_, bm_, bz_, a8_, av_, aj_, ap_, ag_, b6_ (show 1000 + ttE.N (bare s.expr) = 1000 + (ttE.B 1000 (bare s.expr)).length by rw [ttE.len]), b7_, b0_ (show 1000 + ttE.N (bare s.expr) = 1000 + (ttE.B 1000 (bare s.expr)).length by rw [ttE.len]), (show (1000 + ttE.N (bare s.expr) = 11) = False by simp only [eq_iff_iff, iff_false]; omega), (show (1000 + ttE.N (bare s.expr) = 12) = False by simp only [eq_iff_iff, iff_false]; omega), (show (1000 + ttE.N (bare s.expr) = 13) = False by simp only [eq_iff_iff, iff_false]; omega)]; rw [md_ (by simpa using h11) (by simpa using h18)]; rfl) (by intro i b hb; rw [md_ (by simpa using h11) (by simpa using h18)] at hb; exact ga_ hb) | exact ttB.out_one (by simp only [Tryz.results110]; rfl) (by simp only [ba_, bs_, go_sem, seval, aa_, bm_, bz_, a8_, av_, aj_, ap_, ag_, b6_ (show 1000 + ttE.N (bare s.expr) = 1000 + (ttE.B 1000 (bare s.expr)).length by rw [ttE.len]), b7_, b0_ (show 1000 + ttE.N (bare s.expr) = 1000 + (ttE.B 1000 (bare s.expr)).length by rw [ttE.len]), (show (1000 + ttE.N (bare s.expr) = 11) = False by simp only [eq_iff_iff, iff_false]; omega), (show (1000 + ttE.N (bare s.expr) = 12) = False by simp only [eq_iff_iff, iff_false]; omega), (show (1000 + ttE.N (bare s.expr) = 13) = False by simp only [eq_iff_iff, iff_false]; omega)]) (by simp only [bq_, go_sem, seval, aa_, bm_, bz_, a8_, av_, aj_, ap_, ag_, b6_ (show 1000 + ttE.N (bare s.expr) = 1000 + (ttE.B 1000 (bare s.expr)).length by rw [ttE.len]), b7_, b0_ (show 1000 + ttE.N (bare s.expr) = 1000 + (ttE.B 1000 (bare s.expr)).length by rw [ttE.len]), (show (1000 + ttE.N (bare s.expr) = 11) = False by simp only [eq_iff_iff, iff_false]; omega), (show (1000 + ttE.N (bare s.expr) = 12) = False by simp only [eq_iff_iff, iff_false]; omega), (show (1000 + ttE.N (bare s.expr) = 13) = False by simp only [eq_iff_iff, iff_false]; omega)]; rw [mj_ (by simpa using h11) (by simpa using h18)]; rfl) (by intro i b hb; rw [mj_ (by simpa using h11) (by simpa using h18)] at hb; exact ga_ hb) | exact ttB.out_one (by simp only [Tryz.results110]; rfl) (by simp only [ba_, bs_, go_sem, seval, aa_, bm_, bz_, a8_, av_, aj_, ap_, ag_, b6_ (show 1000 + ttE.N (bare s.expr) = 1000 + (ttE.B 1000 (bare s.expr)).length by rw [ttE.len]), b7_, b0_ (show 1000 + ttE.N (bare s.expr) = 1000 + (ttE.B 1000 (bare s.expr)).length by rw [ttE.len]), (show (1000 + ttE.N (bare s.expr) = 11) = False by simp only [eq_iff_iff, iff_false]; omega), (show (1000 + ttE.N (bare s.expr) = 12) = False by simp only [eq_iff_iff, iff_false]; omega), (show (1000 + ttE.N (bare s.expr) = 13) = False by simp only [eq_iff_iff, iff_false]; omega)]) (by simp only [bq_, go_sem, seval, aa_, bm_, bz_, a8_, av_, aj_, ap_, ag_, b6_ (show 1000 + ttE.N (bare s.expr) = 1000 + (ttE.B 1000 (bare s.expr)).length by rw [ttE.len]), b7_, b0_ (show 1000 + ttE.N (bare s.expr) = 1000 + (ttE.B 1000 (bare s.expr)).length by rw [ttE.len]), (show (1000 + ttE.N (bare s.expr) = 11) = False by simp only [eq_iff_iff, iff_false]; omega), (show (1000 + ttE.N (bare s.expr) = 12) = False by simp only [eq_iff_iff, iff_false]; omega), (show (1000 + ttE.N (bare s.expr) = 13) = False by simp only [eq_iff_iff, iff_false]; omega)]; rw [me_ (by simpa using h11)]; rfl) (by intro i b hb; rw [me_ (by simpa using h11)] at hb; exact ja_ hb)
 ·refine .skip (.seq (.seq (.rgn [] (by simp only [go_sem, seval, aa_, bm_, bz_, a8_, av_, aj_, ap_, ag_, b6_ (show 1000 + ttE.N (bare s.expr) = 1000 + (ttE.B 1000 (bare s.expr)).length by rw [ttE.len]), b7_, b0_ (show 1000 + ttE.N (bare s.expr) = 1000 + (ttE.B 1000 (bare s.expr)).length by rw [ttE.len]), (show (1000 + ttE.N (bare s.expr) = 11) = False by simp only [eq_iff_iff, iff_false]; omega), (show (1000 + ttE.N (bare s.expr) = 12) = False by simp only [eq_iff_iff, iff_false]; omega), (show (1000 + ttE.N (bare s.expr) = 13) = False by simp only [eq_iff_iff, iff_false]; omega)]; rfl) ?_ ?_)))
  ·(first | trivial | (simp; done) | (and_intros <;> first | trivial | rfl | exact ao_ _ _ | exact (ttE.own _ _).2 | omega | (simp; done) | (simp only [TT.len]; rw [List.all_eq_true]; intro x hx; rw [List.mem_range'_1] at hx; simp [List.mem_range'_1]; omega) | (simp; omega)))
  refine .condB (by simp only [go_sem, seval, aa_, bm_, bz_, a8_, av_, aj_, ap_, ag_, b6_ (show 1000 + ttE.N (bare s.expr) = 1000 + (ttE.B 1000 (bare s.expr)).length by rw [ttE.len]), b7_, b0_ (show 1000 + ttE.N (bare s.expr) = 1000 + (ttE.B 1000 (bare s.expr)).length by rw [ttE.len]), (show (1000 + ttE.N (bare s.expr) = 11) = False by simp only [eq_iff_iff, iff_false]; omega), (show (1000 + ttE.N (bare s.expr) = 12) = False by simp only [eq_iff_iff, iff_false]; omega), (show (1000 + ttE.N (bare s.expr) = 13) = False by simp only [eq_iff_iff, iff_false]; omega)]; rfl) (by simp only [go_sem, seval, aa_, bm_, bz_, a8_, av_, aj_, ap_, ag_, b6_ (show 1000 + ttE.N (bare s.expr) = 1000 + (ttE.B 1000 (bare s.expr)).length by rw [ttE.len]), b7_, b0_ (show 1000 + ttE.N (bare s.expr) = 1000 + (ttE.B 1000 (bare s.expr)).length by rw [ttE.len]), (show (1000 + ttE.N (bare s.expr) = 11) = False by simp only [eq_iff_iff, iff_false]; omega), (show (1000 + ttE.N (bare s.expr) = 12) = False by simp only [eq_iff_iff, iff_false]; omega), (show (1000 + ttE.N (bare s.expr) = 13) = False by simp only [eq_iff_iff, iff_false]; omega)]) (fun h18 => ?_) (fun h18 => ?_)
  ·refine .rgn [a8_ [] (1000 + ttE.N (bare s.expr)) (nj_ s.thn w2 s4 (by omega)) (ttE.seg (1000 + ttE.N (bare s.expr)) (bare s.thn))] (by simp only [go_sem, seval, aa_, bm_, bz_, a8_, av_, aj_, ap_, ag_, b6_ (show 1000 + ttE.N (bare s.expr) = 1000 + (ttE.B 1000 (bare s.expr)).length by rw [ttE.len]), b7_, b0_ (show 1000 + ttE.N (bare s.expr) = 1000 + (ttE.B 1000 (bare s.expr)).length by rw [ttE.len]), (show (1000 + ttE.N (bare s.expr) = 11) = False by simp only [eq_iff_iff, iff_false]; omega), (show (1000 + ttE.N (bare s.expr) = 12) = False by simp only [eq_iff_iff, iff_false]; omega), (show (1000 + ttE.N (bare s.expr) = 13) = False by simp only [eq_iff_iff, iff_false]; omega)]; rfl) ?_ ?_
   ·(first | trivial | (simp; done) | (and_intros <;> first | trivial | rfl | exact ao_ _ _ | exact (ttE.own _ _).2 | omega | (simp; done) | (simp only [TT.len]; rw [List.all_eq_true]; intro x hx; rw [List.mem_range'_1] at hx; simp [List.mem_range'_1]; omega) | (simp; omega)))
   refine .seq (.rgn [] (by simp only [go_sem, seval, aa_, bm_, bz_, a8_, av_, aj_, ap_, ag_, b6_ (show 1000 + ttE.N (bare s.expr) = 1000 + (ttE.B 1000 (bare s.expr)).length by rw [ttE.len]), b7_, b0_ (show 1000 + ttE.N (bare s.expr) = 1000 + (ttE.B 1000 (bare s.expr)).length by rw [ttE.len]), (show (1000 + ttE.N (bare s.expr) = 11) = False by simp only [eq_iff_iff, iff_false]; omega), (show (1000 + ttE.N (bare s.expr) = 12) = False by simp only [eq_iff_iff, iff_false]; omega), (show (1000 + ttE.N (bare s.expr) = 13) = False by simp only [eq_iff_iff, iff_false]; omega)]; rfl) ?_ ?_)
   ·(first | trivial | (simp; done) | (and_intros <;> first | trivial | rfl | exact ao_ _ _ | exact (ttE.own _ _).2 | omega | (simp; done) | (simp only [TT.len]; rw [List.all_eq_true]; intro x hx; rw [List.mem_range'_1] at hx; simp [List.mem_range'_1]; omega) | (simp; omega)))
   refine .ret ⟨.inr rfl, ?_⟩
   first | (exfalso; simp at h11 h18; omega) | exact ttB.out_one (by simp only [Tryz.results110]; rfl) (by simp only [ba_, bs_, go_sem, seval, aa_, bm_, bz_, a8_, av_, aj_, ap_, ag_, b6_ (show 1000 + ttE.N (bare s.expr) = 1000 + (ttE.B 1000 (bare s.expr)).length by rw [ttE.len]), b7_, b0_ (show 1000 + ttE.N (bare s.expr) = 1000 + (ttE.B 1000 (bare s.expr)).length by rw [ttE.len]), (show (1000 + ttE.N (bare s.expr) = 11) = False by simp only [eq_iff_iff, iff_false]; omega), (show (1000 + ttE.N (bare s.expr) = 12) = False by simp only [eq_iff_iff, iff_false]; omega), (show (1000 + ttE.N (bare s.expr) = 13) = False by simp only [eq_iff_iff, iff_false]; omega)]) (by simp only [bq_, go_sem, seval, aa_, bm_, bz_, a8_, av_, aj_, ap_, ag_, b6_ (show 1000 + ttE.N (bare s.expr) = 1000 + (ttE.B 1000 (bare s.expr)).length by rw [ttE.len]), b7_, b0_ (show 1000 + ttE.N (bare s.expr) = 1000 + (ttE.B 1000 (bare s.expr)).length by rw [ttE.len]), (show (1000 + ttE.N (bare s.expr) = 11) = False by simp only [eq_iff_iff, iff_false]; omega), (show (1000 + ttE.N (bare s.expr) = 12) = False by simp only [eq_iff_iff, iff_false]; omega), (show (1000 + ttE.N (bare s.expr) = 13) = False by simp only [eq_iff_iff, iff_false]; omega)]; rw [md_ (by simpa using h11) (by simpa using h18)]; rfl) (by intro i b hb; rw [md_ (by simpa using h11) (by simpa using h18)] at hb; exact ga_ hb) | exact ttB.out_one (by simp only [Tryz.results110]; rfl) (by simp only [ba_, bs_, go_sem, seval, aa_, bm_, bz_, a8_, av_, aj_, ap_, ag_, b6_ (show 1000 + ttE.N (bare s.expr) = 1000 + (ttE.B 1000 (bare s.expr)).length by rw [ttE.len]), b7_, b0_ (show 1000 + ttE.N (bare s.expr) = 1000 + (ttE.B 1000 (bare s.expr)).length by rw [ttE.len]), (show (1000 + ttE.N (bare s.expr) = 11) = False by simp only [eq_iff_iff, iff_false]; omega), (show (1000 + ttE.N (bare s.expr) = 12) = False by simp only [eq_iff_iff, iff_false]; omega), (show (1000 + ttE.N (bare s.expr) = 13) = False by simp only [eq_iff_iff, iff_false]; omega)]) (by simp only [bq_, go_sem, seval, aa_, bm_, bz_, a8_, av_, aj_, ap_, ag_, b6_ (show 1000 + ttE.N (bare s.expr) = 1000 + (ttE.B 1000 (bare s.expr)).length by rw [ttE.len]), b7_, b0_ (show 1000 + ttE.N (bare s.expr) = 1000 + (ttE.B 1000 (bare s.expr)).length by rw [ttE.len]), (show (1000 + ttE.N (bare s.expr) = 11) = False by simp only [eq_iff_iff, iff_false]; omega), (show (1000 + ttE.N (bare s.expr) = 12) = False by simp only [eq_iff_iff, iff_false]; omega), (show (1000 + ttE.N (bare s.expr) = 13) = False by simp only [eq_iff_iff, iff_false]; omega)]; rw [mj_ (by simpa using h11) (by simpa using h18)]; rfl) (by intro i b hb; rw [mj_ (by simpa using h11) (by simpa using h18)] at hb; exact ga_ hb) | exact ttB.out_one (by simp only [Tryz.results110]; rfl) (by simp only [ba_, bs_, go_sem, seval, aa_, bm_, bz_, a8_, av_, aj_, ap_, ag_, b6_ (show 1000 + ttE.N (bare s.expr) = 1000 + (ttE.B 1000 (bare s.expr)).length by rw [ttE.len]), b7_, b0_ (show 1000 + ttE.N (bare s.expr) = 1000 + (ttE.B 1000 (bare s.expr)).length by rw [ttE.len]), (show (1000 + ttE.N (bare s.expr) = 11) = False by simp only [eq_iff_iff, iff_false]; omega), (show (1000 + ttE.N (bare s.expr) = 12) = False by simp only [eq_iff_iff, iff_false]; omega), (show (1000 + ttE.N (bare s.expr) = 13) = False by simp only [eq_iff_iff, iff_false]; omega)]) (by simp only [bq_, go_sem, seval, aa_, bm_, bz_, a8_, av_, aj_, ap_, ag_, b6_ (show 1000 + ttE.N (bare s.expr) = 1000 + (ttE.B 1000 (bare s.expr)).length by rw [ttE.len]), b7_, b0_ (show 1000 + ttE.N (bare s.expr) = 1000 + (ttE.B 1000 (bare s.expr)).length by rw [ttE.len]), (show (1000 + ttE.N (bare s.expr) = 11) = False by simp only [eq_iff_iff, iff_false]; omega), (show (1000 + ttE.N (bare s.expr) = 12) = False by simp only [eq_iff_iff, iff_false]; omega), (show (1000 + ttE.N (bare s.expr) = 13) = False by simp only [eq_iff_iff, iff_false]; omega)]; rw [me_ (by simpa using h11)]; rfl) (by intro i b hb; rw [me_ (by simpa using h11)] at hb; exact ja_ hb)
  ·refine .skip (.seq (.rgn [] (by simp only [go_sem, seval, aa_, bm_, bz_, a8_, av_, aj_, ap_, ag_, b6_ (show 1000 + ttE.N (bare s.expr) = 1000 + (ttE.B 1000 (bare s.expr)).length by rw [ttE.len]), b7_, b0_ (show 1000 + ttE.N (bare s.expr) = 1000 + (ttE.B 1000 (bare s.expr)).length by rw [ttE.len]), (show (1000 + ttE.N (bare s.expr) = 11) = False by simp only [eq_iff_iff, iff_false]; omega), (show (1000 + ttE.N (bare s.expr) = 12) = False by simp only [eq_iff_iff, iff_false]; omega), (show (1000 + ttE.N (bare s.expr) = 13) = False by simp only [eq_iff_iff, iff_false]; omega)]; rfl) ?_ ?_))
   ·(first | trivial | (simp; done) | (and_intros <;> first | trivial | rfl | exact ao_ _ _ | exact (ttE.own _ _).2 | omega | (simp; done) | (simp only [TT.len]; rw [List.all_eq_true]; intro x hx; rw [List.mem_range'_1] at hx; simp [List.mem_range'_1]; omega) | (simp; omega)))
   refine .can (Can.ownCell 12 5 1000 33 4 (by simp only [go_sem, seval, aa_, bm_, bz_, a8_, av_, aj_, ap_, ag_, b6_ (show 1000 + ttE.N (bare s.expr) = 1000 + (ttE.B 1000 (bare s.expr)).length by rw [ttE.len]), b7_, b0_ (show 1000 + ttE.N (bare s.expr) = 1000 + (ttE.B 1000 (bare s.expr)).length by rw [ttE.len]), (show (1000 + ttE.N (bare s.expr) = 11) = False by simp only [eq_iff_iff, iff_false]; omega), (show (1000 + ttE.N (bare s.expr) = 12) = False by simp only [eq_iff_iff, iff_false]; omega), (show (1000 + ttE.N (bare s.expr) = 13) = False by simp only [eq_iff_iff, iff_false]; omega)] <;> rfl) (by simp only [go_sem, seval, aa_, bm_, bz_, a8_, av_, aj_, ap_, ag_, b6_ (show 1000 + ttE.N (bare s.expr) = 1000 + (ttE.B 1000 (bare s.expr)).length by rw [ttE.len]), b7_, b0_ (show 1000 + ttE.N (bare s.expr) = 1000 + (ttE.B 1000 (bare s.expr)).length by rw [ttE.len]), (show (1000 + ttE.N (bare s.expr) = 11) = False by simp only [eq_iff_iff, iff_false]; omega), (show (1000 + ttE.N (bare s.expr) = 12) = False by simp only [eq_iff_iff, iff_false]; omega), (show (1000 + ttE.N (bare s.expr) = 13) = False by simp only [eq_iff_iff, iff_false]; omega)] <;> rfl) (by simp only [go_sem, seval, aa_, bm_, bz_, a8_, av_, aj_, ap_, ag_, b6_ (show 1000 + ttE.N (bare s.expr) = 1000 + (ttE.B 1000 (bare s.expr)).length by rw [ttE.len]), b7_, b0_ (show 1000 + ttE.N (bare s.expr) = 1000 + (ttE.B 1000 (bare s.expr)).length by rw [ttE.len]), (show (1000 + ttE.N (bare s.expr) = 11) = False by simp only [eq_iff_iff, iff_false]; omega), (show (1000 + ttE.N (bare s.expr) = 12) = False by simp only [eq_iff_iff, iff_false]; omega), (show (1000 + ttE.N (bare s.expr) = 13) = False by simp only [eq_iff_iff, iff_false]; omega)] <;> rfl) (by simp only [go_sem, seval, aa_, bm_, bz_, a8_, av_, aj_, ap_, ag_, b6_ (show 1000 + ttE.N (bare s.expr) = 1000 + (ttE.B 1000 (bare s.expr)).length by rw [ttE.len]), b7_, b0_ (show 1000 + ttE.N (bare s.expr) = 1000 + (ttE.B 1000 (bare s.expr)).length by rw [ttE.len]), (show (1000 + ttE.N (bare s.expr) = 11) = False by simp only [eq_iff_iff, iff_false]; omega), (show (1000 + ttE.N (bare s.expr) = 12) = False by simp only [eq_iff_iff, iff_false]; omega), (show (1000 + ttE.N (bare s.expr) = 13) = False by simp only [eq_iff_iff, iff_false]; omega)] <;> rfl) (by simp only [go_sem, seval, aa_, bm_, bz_, a8_, av_, aj_, ap_, ag_, b6_ (show 1000 + ttE.N (bare s.expr) = 1000 + (ttE.B 1000 (bare s.expr)).length by rw [ttE.len]), b7_, b0_ (show 1000 + ttE.N (bare s.expr) = 1000 + (ttE.B 1000 (bare s.expr)).length by rw [ttE.len]), (show (1000 + ttE.N (bare s.expr) = 11) = False by simp only [eq_iff_iff, iff_false]; omega), (show (1000 + ttE.N (bare s.expr) = 12) = False by simp only [eq_iff_iff, iff_false]; omega), (show (1000 + ttE.N (bare s.expr) = 13) = False by simp only [eq_iff_iff, iff_false]; omega)] <;> rfl)) ?_
   refine .can (Can.ownCell 12 9 1001 33 4 (by simp only [go_sem, seval, aa_, bm_, bz_, a8_, av_, aj_, ap_, ag_, b6_ (show 1000 + ttE.N (bare s.expr) = 1000 + (ttE.B 1000 (bare s.expr)).length by rw [ttE.len]), b7_, b0_ (show 1000 + ttE.N (bare s.expr) = 1000 + (ttE.B 1000 (bare s.expr)).length by rw [ttE.len]), (show (1000 + ttE.N (bare s.expr) = 11) = False by simp only [eq_iff_iff, iff_false]; omega), (show (1000 + ttE.N (bare s.expr) = 12) = False by simp only [eq_iff_iff, iff_false]; omega), (show (1000 + ttE.N (bare s.expr) = 13) = False by simp only [eq_iff_iff, iff_false]; omega)] <;> rfl) (by simp only [go_sem, seval, aa_, bm_, bz_, a8_, av_, aj_, ap_, ag_, b6_ (show 1000 + ttE.N (bare s.expr) = 1000 + (ttE.B 1000 (bare s.expr)).length by rw [ttE.len]), b7_, b0_ (show 1000 + ttE.N (bare s.expr) = 1000 + (ttE.B 1000 (bare s.expr)).length by rw [ttE.len]), (show (1000 + ttE.N (bare s.expr) = 11) = False by simp only [eq_iff_iff, iff_false]; omega), (show (1000 + ttE.N (bare s.expr) = 12) = False by simp only [eq_iff_iff, iff_false]; omega), (show (1000 + ttE.N (bare s.expr) = 13) = False by simp only [eq_iff_iff, iff_false]; omega)] <;> rfl) (by simp only [go_sem, seval, aa_, bm_, bz_, a8_, av_, aj_, ap_, ag_, b6_ (show 1000 + ttE.N (bare s.expr) = 1000 + (ttE.B 1000 (bare s.expr)).length by rw [ttE.len]), b7_, b0_ (show 1000 + ttE.N (bare s.expr) = 1000 + (ttE.B 1000 (bare s.expr)).length by rw [ttE.len]), (show (1000 + ttE.N (bare s.expr) = 11) = False by simp only [eq_iff_iff, iff_false]; omega), (show (1000 + ttE.N (bare s.expr) = 12) = False by simp only [eq_iff_iff, iff_false]; omega), (show (1000 + ttE.N (bare s.expr) = 13) = False by simp only [eq_iff_iff, iff_false]; omega)] <;> rfl) (by simp only [go_sem, seval, aa_, bm_, bz_, a8_, av_, aj_, ap_, ag_, b6_ (show 1000 + ttE.N (bare s.expr) = 1000 + (ttE.B 1000 (bare s.expr)).length by rw [ttE.len]), b7_, b0_ (show 1000 + ttE.N (bare s.expr) = 1000 + (ttE.B 1000 (bare s.expr)).length by rw [ttE.len]), (show (1000 + ttE.N (bare s.expr) = 11) = False by simp only [eq_iff_iff, iff_false]; omega), (show (1000 + ttE.N (bare s.expr) = 12) = False by simp only [eq_iff_iff, iff_false]; omega), (show (1000 + ttE.N (bare s.expr) = 13) = False by simp only [eq_iff_iff, iff_false]; omega)] <;> rfl) (by simp only [go_sem, seval, aa_, bm_, bz_, a8_, av_, aj_, ap_, ag_, b6_ (show 1000 + ttE.N (bare s.expr) = 1000 + (ttE.B 1000 (bare s.expr)).length by rw [ttE.len]), b7_, b0_ (show 1000 + ttE.N (bare s.expr) = 1000 + (ttE.B 1000 (bare s.expr)).length by rw [ttE.len]), (show (1000 + ttE.N (bare s.expr) = 11) = False by simp only [eq_iff_iff, iff_false]; omega), (show (1000 + ttE.N (bare s.expr) = 12) = False by simp only [eq_iff_iff, iff_false]; omega), (show (1000 + ttE.N (bare s.expr) = 13) = False by simp only [eq_iff_iff, iff_false]; omega)] <;> rfl)) ?_
   refine .ret ⟨.inr rfl, ?_⟩
   first | (exfalso; simp at h11 h18; omega) | exact ttB.out_one (by simp only [Tryz.results110]; rfl) (by simp only [ba_, bs_, go_sem, seval, aa_, bm_, bz_, a8_, av_, aj_, ap_, ag_, b6_ (show 1000 + ttE.N (bare s.expr) = 1000 + (ttE.B 1000 (bare s.expr)).length by rw [ttE.len]), b7_, b0_ (show 1000 + ttE.N (bare s.expr) = 1000 + (ttE.B 1000 (bare s.expr)).length by rw [ttE.len]), (show (1000 + ttE.N (bare s.expr) = 11) = False by simp only [eq_iff_iff, iff_false]; omega), (show (1000 + ttE.N (bare s.expr) = 12) = False by simp only [eq_iff_iff, iff_false]; omega), (show (1000 + ttE.N (bare s.expr) = 13) = False by simp only [eq_iff_iff, iff_false]; omega)]) (by simp only [bq_, go_sem, seval, aa_, bm_, bz_, a8_, av_, aj_, ap_, ag_, b6_ (show 1000 + ttE.N (bare s.expr) = 1000 + (ttE.B 1000 (bare s.expr)).length by rw [ttE.len]), b7_, b0_ (show 1000 + ttE.N (bare s.expr) = 1000 + (ttE.B 1000 (bare s.expr)).length by rw [ttE.len]), (show (1000 + ttE.N (bare s.expr) = 11) = False by simp only [eq_iff_iff, iff_false]; omega), (show (1000 + ttE.N (bare s.expr) = 12) = False by simp only [eq_iff_iff, iff_false]; omega), (show (1000 + ttE.N (bare s.expr) = 13) = False by simp only [eq_iff_iff, iff_false]; omega)]; rw [md_ (by simpa using h11) (by simpa using h18)]; rfl) (by intro i b hb; rw [md_ (by simpa using h11) (by simpa using h18)] at hb; exact ga_ hb) | exact ttB.out_one (by simp only [Tryz.results110]; rfl) (by simp only [ba_, bs_, go_sem, seval, aa_, bm_, bz_, a8_, av_, aj_, ap_, ag_, b6_ (show 1000 + ttE.N (bare s.expr) = 1000 + (ttE.B 1000 (bare s.expr)).length by rw [ttE.len]), b7_, b0_ (show 1000 + ttE.N (bare s.expr) = 1000 + (ttE.B 1000 (bare s.expr)).length by rw [ttE.len]), (show (1000 + ttE.N (bare s.expr) = 11) = False by simp only [eq_iff_iff, iff_false]; omega), (show (1000 + ttE.N (bare s.expr) = 12) = False by simp only [eq_iff_iff, iff_false]; omega), (show (1000 + ttE.N (bare s.expr) = 13) = False by simp only [eq_iff_iff, iff_false]; omega)]) (by simp only [bq_, go_sem, seval, aa_, bm_, bz_, a8_, av_, aj_, ap_, ag_, b6_ (show 1000 + ttE.N (bare s.expr) = 1000 + (ttE.B 1000 (bare s.expr)).length by rw [ttE.len]), b7_, b0_ (show 1000 + ttE.N (bare s.expr) = 1000 + (ttE.B 1000 (bare s.expr)).length by rw [ttE.len]), (show (1000 + ttE.N (bare s.expr) = 11) = False by simp only [eq_iff_iff, iff_false]; omega), (show (1000 + ttE.N (bare s.expr) = 12) = False by simp only [eq_iff_iff, iff_false]; omega), (show (1000 + ttE.N (bare s.expr) = 13) = False by simp only [eq_iff_iff, iff_false]; omega)]; rw [mj_ (by simpa using h11) (by simpa using h18)]; rfl) (by intro i b hb; rw [mj_ (by simpa using h11) (by simpa using h18)] at hb; exact ga_ hb) | exact ttB.out_one (by simp only [Tryz.results110]; rfl) (by simp only [ba_, bs_, go_sem, seval, aa_, bm_, bz_, a8_, av_, aj_, ap_, ag_, b6_ (show 1000 + ttE.N (bare s.expr) = 1000 + (ttE.B 1000 (bare s.expr)).length by rw [ttE.len]), b7_, b0_ (show 1000 + ttE.N (bare s.expr) = 1000 + (ttE.B 1000 (bare s.expr)).length by rw [ttE.len]), (show (1000 + ttE.N (bare s.expr) = 11) = False by simp only [eq_iff_iff, iff_false]; omega), (show (1000 + ttE.N (bare s.expr) = 12) = False by simp only [eq_iff_iff, iff_false]; omega), (show (1000 + ttE.N (bare s.expr) = 13) = False by simp only [eq_iff_iff, iff_false]; omega)]) (by simp only [bq_, go_sem, seval, aa_, bm_, bz_, a8_, av_, aj_, ap_, ag_, b6_ (show 1000 + ttE.N (bare s.expr) = 1000 + (ttE.B 1000 (bare s.expr)).length by rw [ttE.len]), b7_, b0_ (show 1000 + ttE.N (bare s.expr) = 1000 + (ttE.B 1000 (bare s.expr)).length by rw [ttE.len]), (show (1000 + ttE.N (bare s.expr) = 11) = False by simp only [eq_iff_iff, iff_false]; omega), (show (1000 + ttE.N (bare s.expr) = 12) = False by simp only [eq_iff_iff, iff_false]; omega), (show (1000 + ttE.N (bare s.expr) = 13) = False by simp only [eq_iff_iff, iff_false]; omega)]; rw [me_ (by simpa using h11)]; rfl) (by intro i b hb; rw [me_ (by simpa using h11)] at hb; exact ja_ hb)
theorem y6_ (s : Sl) (hs : fg_ s = true) (hn : ttS.N s ≤ 10000000) : ACall En 51 [.ag (sC s)] [] [.ag (ttB.O 0 (dt_ s))] (ttB.B 0 (dt_ s)) := by
 have hn' : ttE.N s.expr + ttE.N s.thn ≤ 10000000 := hn
 have n0 : ttB.N (bof s) ≤ 20000000 := by
  show ttE.N (bof s).expr + ttE.N (bof s).thn ≤ _
  have n1 := is_ s.expr
  have n2 := is_ s.thn
  have e0 : ttE.N E0 = 1 := by rw [dz_]; rfl
  unfold bof
  dsimp only
  split <;> split <;> omega
 refine an_ (fn := Tryz.f51) (List.range' 1000 (ttB.N (dt_ s))) Tryz.func51 rfl rfl (by simp) fun C => ?_
 rw [bb_]
 simp only [Tryz.ntmps51, T7_, List.length_nil, Nat.reduceAdd, Nat.reduceSub, List.replicate_succ, List.replicate_zero, List.cons_append, List.nil_append, bu_]
 refine .seq (.rgn [] (by simp only [go_sem, seval, aa_, ch_, a8_, av_, aj_, ap_, ag_]; rfl) ?_ ?_)
 ·(first | trivial | (simp; done) | (and_intros <;> first | trivial | rfl | exact ao_ _ _ | exact (ttB.own _ _).2 | omega | (simp; done) | (simp only [TT.len]; rw [List.all_eq_true]; intro x hx; rw [List.mem_range'_1] at hx; simp [List.mem_range'_1]; omega) | (simp; omega)))
 refine .seq (.seq (.rgn [br_ (lp_ s hs)] (by simp only [go_sem, seval, aa_, ch_, a8_, av_, aj_, ap_, ag_]; rfl) ?_ ?_))
 ·(first | trivial | (simp; done) | (and_intros <;> first | trivial | rfl | exact ao_ _ _ | exact (ttB.own _ _).2 | omega | (simp; done) | (simp only [TT.len]; rw [List.all_eq_true]; intro x hx; rw [List.mem_range'_1] at hx; simp [List.mem_range'_1]; omega) | (simp; omega)))
 refine .condB (by simp only [go_sem, seval, aa_, ch_, a8_, av_, aj_, ap_, ag_]; rfl) (by simp only [go_sem, seval, aa_, ch_, a8_, av_, aj_, ap_, ag_]) (fun h5 => ?_) (fun h5 => ?_)
 ·refine .seq (.rgn [] (by simp only [go_sem, seval, aa_, ch_, a8_, av_, aj_, ap_, ag_]; rfl) ?_ ?_)
  ·(first | trivial | (simp; done) | (and_intros <;> first | trivial | rfl | exact ao_ _ _ | exact (ttB.own _ _).2 | omega | (simp; done) | (simp only [TT.len]; rw [List.all_eq_true]; intro x hx; rw [List.mem_range'_1] at hx; simp [List.mem_range'_1]; omega) | (simp; omega)))
  refine .can (Can.ownCell 12 5 1000 33 4 (by simp only [go_sem, seval, aa_, ch_, a8_, av_, aj_, ap_, ag_] <;> rfl) (by simp only [go_sem, seval, aa_, ch_, a8_, av_, aj_, ap_, ag_] <;> rfl) (by simp only [go_sem, seval, aa_, ch_, a8_, av_, aj_, ap_, ag_] <;> rfl) (by simp only [go_sem, seval, aa_, ch_, a8_, av_, aj_, ap_, ag_] <;> rfl) (by simp only [go_sem, seval, aa_, ch_, a8_, av_, aj_, ap_, ag_] <;> rfl)) ?_
  refine .can (Can.ownCell 12 9 1001 33 4 (by simp only [go_sem, seval, aa_, ch_, a8_, av_, aj_, ap_, ag_] <;> rfl) (by simp only [go_sem, seval, aa_, ch_, a8_, av_, aj_, ap_, ag_] <;> rfl) (by simp only [go_sem, seval, aa_, ch_, a8_, av_, aj_, ap_, ag_] <;> rfl) (by simp only [go_sem, seval, aa_, ch_, a8_, av_, aj_, ap_, ag_] <;> rfl) (by simp only [go_sem, seval, aa_, ch_, a8_, av_, aj_, ap_, ag_] <;> rfl)) ?_
  refine .ret ⟨.inr rfl, ?_⟩
  first | exact ttB.out_one (by simp only [Tryz.results51]; rfl) (by simp only [ba_, bs_, go_sem, seval, aa_, ch_, a8_, av_, aj_, ap_, ag_]) (by simp only [bq_, go_sem, seval, aa_, ch_, a8_, av_, aj_, ap_, ag_]; rw [show dt_ s = B0 by (simp only [Bool.not_eq_true'] at h5; simp [dt_, h5])]; rfl) (by intro i b hb; rw [show dt_ s = B0 by (simp only [Bool.not_eq_true'] at h5; simp [dt_, h5])] at hb; exact nn_ hb) | exact ttB.out_one (by simp only [Tryz.results51]; rfl) (by simp only [ba_, bs_, go_sem, seval, aa_, ch_, a8_, av_, aj_, ap_, ag_]) (by simp only [bq_, go_sem, seval, aa_, ch_, a8_, av_, aj_, ap_, ag_]; rw [show dt_ s = bof s by (simp only [Bool.not_eq_false'] at h5; simp [dt_, h5])]) (by intro i b hb; rw [show dt_ s = bof s by (simp only [Bool.not_eq_false'] at h5; simp [dt_, h5])] at hb; exact pp_ hb)
 ·refine .skip (.seq (.rgn [a8_ [] 1000 (aae_ s hs (hi_ (d7_ (by simpa using h5))).1 (hi_ (d7_ (by simpa using h5))).2 hn) (ttB.seg 1000 (bof s))] (by simp only [go_sem, seval, aa_, ch_, a8_, av_, aj_, ap_, ag_]; rfl) ?_ ?_))
  ·(first | trivial | (simp; done) | (and_intros <;> first | trivial | rfl | exact ao_ _ _ | exact (ttB.own _ _).2 | omega | (simp; done) | (simp only [TT.len]; rw [List.all_eq_true]; intro x hx; rw [List.mem_range'_1] at hx; simp [List.mem_range'_1]; omega) | (simp; omega)))
  refine .ret ⟨.inr rfl, ?_⟩
  first | exact ttB.out_one (by simp only [Tryz.results51]; rfl) (by simp only [ba_, bs_, go_sem, seval, aa_, ch_, a8_, av_, aj_, ap_, ag_]) (by simp only [bq_, go_sem, seval, aa_, ch_, a8_, av_, aj_, ap_, ag_]; rw [show dt_ s = B0 by (simp only [Bool.not_eq_true'] at h5; simp [dt_, h5])]; rfl) (by intro i b hb; rw [show dt_ s = B0 by (simp only [Bool.not_eq_true'] at h5; simp [dt_, h5])] at hb; exact nn_ hb) | exact ttB.out_one (by simp only [Tryz.results51]; rfl) (by simp only [ba_, bs_, go_sem, seval, aa_, ch_, a8_, av_, aj_, ap_, ag_]) (by simp only [bq_, go_sem, seval, aa_, ch_, a8_, av_, aj_, ap_, ag_]; rw [show dt_ s = bof s by (simp only [Bool.not_eq_false'] at h5; simp [dt_, h5])]) (by intro i b hb; rw [show dt_ s = bof s by (simp only [Bool.not_eq_false'] at h5; simp [dt_, h5])] at hb; exact pp_ hb)
end
end Go.Proofs.YtcigkafioinfoaaGreatDoor
