/- Lines are read: the program's. Conditions: none. -/
import Derived.Test.YtefmbmafdgedmaaGreatDoorKt
import Derived.Test.YtefmbmafdgedmaaGreatDoorKn
import Derived.Test.YtefmbmafdgedmaaGreatDoorKl
set_option linter.unusedVariables false
set_option linter.unusedSimpArgs false
namespace Go.Proofs.YtefmbmafdgedmaaGreatDoor
section
set_option maxRecDepth 100000
set_option maxHeartbeats 8000000
theorem br_ (l : List Str) (k : Nat) : (cb_ l).drop k = cb_ (l.drop k) := by simp [cb_, List.map_drop]
theorem bq_ (l : List Str) (k : Nat) : (cb_ l).take k = cb_ (l.take k) := by simp [cb_, List.map_take]
theorem e4_ {l : List Str} (h : smW l) (k : Nat) : smW (l.drop k) := fun w hw => h w (List.mem_of_mem_drop hw)
theorem mt_ {l : List Str} (h : smW l) (k : Nat) : smW (l.take k) := fun w hw => h w (List.mem_of_mem_take hw)
def du_ (s : Str) : List Str := ((c0_ s).getD []).map (·.s)
theorem n7_ : ∀ (n : Nat) (l : Str) (c : Int) (t : List Tk), ft_ n l c = some t → t.length ≤ l.length
 | 0, l, c, t, h => by simp [ft_] at h; subst h; simp
 | n + 1, [], c, t, h => by simp [ft_] at h; subst h; simp
 | n + 1, x :: l, c, t, h => by
  simp only [ft_] at h
  split at h
  ·have := n7_ n l _ t h; simp only [T7_]; omega
  ·split at h
   ·cases h
   ·obtain ⟨u, hu, rfl⟩ := Option.map_eq_some_iff.1 h
    have h1 := n7_ n _ _ u hu
    have h2 := mm_ (x :: l)
    rw [List.length_drop] at h1
    simp only [T7_] at h1 ⊢; omega
theorem q1_ (s : Str) : ((c0_ s).getD []).length ≤ 120 := by
 cases h : c0_ s with
 | none => simp
 | some t =>
  unfold c0_ at h
  split at h
  ·cases h
  ·have := n7_ _ _ _ _ h; simp only [Option.getD_some]; omega
theorem aam_ (l : List Str) (s : Str) : -1 ≤ ej_ l s ∧ ej_ l s < l.length := by
 unfold ej_
 split
 ·rename_i h
  have := List.idxOf_lt_length_iff.2 h
  omega
 ·omega
theorem acn_ (s : Str) (hs : s.length ≤ 281474976710656) : ACall En 63 [.s s] [] [.sl false (cb_ (du_ s)), .b (c0_ s).isSome] [] := by
 have T := acd_ s hs
 have hb := q1_ s
 unfold du_
 generalize (c0_ s).getD [] = ts at *
 have hp : ∀ k, cw_ (dn_ (cb_ (ts.map (·.s))) [.s []] k) = true := fun k => gs_ (aa_ _) rfl
 have hll : (cb_ (ts.map (·.s))).length = ts.length := by simp [cb_]
 refine ao_ (fn := Tryz.f63) [] Tryz.func63 rfl rfl (by simp) fun C => ?_
 rw [bb_]
 simp only [Tryz.ntmps63, T7_, List.length_nil, Nat.reduceAdd, Nat.reduceSub, List.replicate_succ, List.replicate_zero, List.cons_append, List.nil_append, bu_]
 refine .seq (.rgn [] (by simp only [go_sem, seval, be_, a6_, hp, bv_, av_, hll]; rfl) ?_ ?_)
 ·first | trivial | simp
 refine .seq (.rgn [bj_ T] (by simp only [go_sem, seval, be_, a6_, hp, bv_, av_, hll]; rfl) ?_ ?_)
 ·first | trivial | simp
 refine .seq (.rgn [] (by simp only [go_sem, seval, be_, a6_, hp, bv_, av_, hll]; rfl) ?_ ?_)
 ·simp; omega
 refine .seq (.seq (.rgn [] (by simp only [go_sem, seval, be_, a6_, hp, bv_, av_, hll]; rfl) ?_ ?_))
 ·first | trivial | simp
 refine .block (.loopK (fun k : Nat => ⟨[.no, .no, .no, .no, .no, .b (c0_ s).isSome, .ow 26 1 0 ts.length, .no, .no, .no, .no, .no, .no, .no, .no, .no, .no, .sl false (tkR ts), .i .i64 ts.length, .i .i64 k, .no, .no, .no, .no, .no, .no, .no, .no, .no, .no, .no, .no], bk_ [(26, ⟨9, 1, dn_ (cb_ (ts.map (·.s))) [.s []] k⟩)], us [26]⟩) (fun k : Nat => k ≤ ts.length) (fun k : Nat => ts.length - k) (0) ?_ ?_ (fun k hI => ?_))
 ·simp
 ·exact Can.weak (Weak.lit (by simp only [go_sem, seval, be_, a6_, hp, bv_, av_, hll, ay_, leV, aw_, ax_, V.inn, us, T9_, Ta_] <;> (simp)) (by simp only [go_sem, seval, be_, a6_, hp, bv_, av_, hll, ay_, leV, aw_, ax_, V.inn, us, T9_, Ta_]) (by simp only [go_sem, seval, be_, a6_, hp, bv_, av_, hll, ay_, leV, aw_, ax_, V.inn, us, T9_, Ta_] <;> (simp [f6_, hll])))
 refine .seq (.rgn [] (by simp only [go_sem, seval, be_, a6_, hp, bv_, av_, hll]; rfl) ?_ ?_)
 ·first | trivial | simp
 refine .seq (.condB (by simp only [go_sem, seval, be_, a6_, hp, bv_, av_, hll]; rfl) (by simp only [go_sem, seval, be_, a6_, hp, bv_, av_, hll]) (fun h20 => ?_) (fun h20 => ?_))
 ·refine .skip (.seq (.block (.seq (.rgn [] (by simp only [go_sem, seval, be_, a6_, hp, bv_, av_, hll, aag_ (show k < ts.length by simpa using h20)]; rfl) ?_ ?_))))
  ·simp at h20; simp; omega
  refine .rgn [] (by simp only [go_sem, seval, be_, a6_, hp, bv_, av_, hll]; rfl) ?_ ?_
  ·simp at h20; simp; omega
  refine .rgn [] (by simp only [go_sem, seval, be_, a6_, hp, bv_, av_, hll]; rfl) ?_ ?_
  ·first | trivial | simp
  refine Exists.intro (k + 1) ⟨?_, ?_, ?_⟩
  ·simp at h20; omega
  ·simp at h20; omega
  exact Can.weak (Weak.lit (by simp only [go_sem, seval, be_, a6_, hp, bv_, av_, hll, ay_, leV, aw_, ax_, V.inn, us, T9_, Ta_] <;> (rw [bx_ (by simp at h20; omega) (by simp at h20; omega)]; simp)) (by simp only [go_sem, seval, be_, a6_, hp, bv_, av_, hll, ay_, leV, aw_, ax_, V.inn, us, T9_, Ta_]) (by simp only [go_sem, seval, be_, a6_, hp, bv_, av_, hll, ay_, leV, aw_, ax_, V.inn, us, T9_, Ta_] <;> ((rw [← gm_ (by rw [hll]; simpa using h20), db_ (by simpa using h20)]; simp [T8_, T6_ (show k < ts.length by simpa using h20)]))))
 ·refine .exit (.seq (.rgn [] (by simp only [go_sem, seval, be_, a6_, hp, bv_, av_, hll]; rfl) ?_ ?_))
  ·first | trivial | simp
  refine .frz 26 (by simp only [go_sem, seval, be_, a6_, hp, bv_, av_, hll]; rfl) (by simp only [go_sem, seval, be_, a6_, hp, bv_, av_, hll]) (by simp only [go_sem, seval, be_, a6_, hp, bv_, av_, hll]; rfl) (by simp only [go_sem, seval, be_, a6_, hp, bv_, av_, hll]; rfl) ?_
  refine .ret ⟨.inr rfl, ?_⟩
  exact Out.plain (by simp only [Tryz.results63]; rfl) (by simp only [bd_, bo_, go_sem, seval, be_, a6_, hp, bv_, av_, hll] <;> (split <;> rfl)) (by simp only [bn_, go_sem, seval, be_, a6_, hp, bv_, av_, hll] <;> (simp at h20; rw [g7_ (by omega)]; simp [← hll, T1_, peel])) (by simp only [go_sem, seval, be_, a6_, hp, bv_, av_, hll])
theorem ak3_ (w : List Str) : (decide ((w.length : Int) > 0) = true → decide ((w.length : Int) > 0) = true ∧ (0 : Int) < w.length ∧ ((cb_ w).getD 0 []).length = 1) ∧ (decide ((w.length : Int) > 0) = true → (decide ((w.length : Int) > 0) = true ∧ 1 ≤ ((cb_ w).getD 0 []).length) ∧ ({ v := ((cb_ w).getD 0 []).getD 0 .no } : Eff) = { v := .s (w.getD 0 []) }) := by
 cases w with
 | nil => simp
 | cons x r => simp [cb_]
end
section
set_option maxRecDepth 100000
set_option maxHeartbeats 8000000
theorem z5_ {w : List Str} (h : smW w) : sm (ex w) = true := by
 have hS := ((i_sm 500).1 1 ⟨w, false, 0⟩ h).1
 unfold ex f5_
 split
 ·split
  ·exact (show sm E0 = true by decide)
  ·exact hS
 ·exact (show sm E0 = true by decide)
theorem lr_ : ∀ (n : Nat) (l : Str) (c : Int) (t : List Tk), ft_ n l c = some t → ∀ x ∈ t, x.s.length ≤ l.length
 | 0, l, c, t, h => by simp [ft_] at h; subst h; intro x hx; cases hx
 | n + 1, [], c, t, h => by simp [ft_] at h; subst h; intro x hx; cases hx
 | n + 1, y :: l, c, t, h => by
  simp only [ft_] at h
  split at h
  ·intro x hx; have := lr_ n l _ t h x hx; simp only [T7_]; omega
  ·split at h
   ·cases h
   ·obtain ⟨u, hu, rfl⟩ := Option.map_eq_some_iff.1 h
    intro x hx
    rcases List.mem_cons.1 hx with rfl | hx
    ·simp only [List.length_take]; omega
    ·have h1 := lr_ n _ _ u hu x hx
     rw [List.length_drop] at h1; omega
theorem uk_ (s : Str) : smW (du_ s) ∧ (du_ s).length ≤ 120 := by
 refine ⟨?_, by unfold du_; rw [List.length_map]; exact q1_ s⟩
 unfold du_
 cases h : c0_ s with
 | none => intro w hw; simp at hw
 | some t =>
  unfold c0_ at h
  split at h
  ·cases h
  ·intro w hw
   simp only [Option.getD_some] at hw
   obtain ⟨x, hx, rfl⟩ := List.mem_map.1 hw
   have := lr_ _ _ _ _ h x hx
   omega
theorem aaw_ {w : List Str} (h : smW w) (k : Nat) : (w.getD k []).length ≤ 281474976710656 := by
 rw [T8_]
 cases hk : w[k]? with
 | none => simp
 | some x => exact h x (List.mem_of_getElem? hk)
theorem bi_ (s : Sl) : c9_ (sC s) = true := by rw [as_]; simp only [c9_, V.pure, ji_, Bool.and_self]
theorem ad8_ {w : List Str} (h : smW w) : hi_ (rdS w) = true := by
 have g := aaw_ h
 have e := fun k => z5_ (e4_ h k)
 have e0 : sm E0 = true := by decide
 unfold rdS
 split
 ·simp only [hi_, e, e0, Bool.and_true, T5_, T3_]; have := g 1; have := g 3; omega
 ·split
  ·simp only [hi_, e, e0, Bool.and_true]; rfl
  ·split
   ·split
    ·simp only [hi_, e, z5_ (e4_ (mt_ h _) 1), Bool.and_true]; rfl
    ·simp only [hi_, e0, Bool.and_true]; rfl
   ·decide
theorem wm_ {w : List Str} (h : (decide ((w.length : Int) > 5) && w.getD 0 [] == [108, 101, 116]) = true) : 5 < w.length ∧ w.getD 0 [] = ik_ := by
 simp only [T5_, T3_, beq_iff_eq] at h; exact ⟨by omega, h.2⟩
theorem z0_ {w : List Str} (h : (decide ((w.length : Int) > 5) && w.getD 0 [] == [108, 101, 116]) = false) : ¬ (5 < w.length ∧ w.getD 0 [] = ik_) := fun q => by
 have : (decide ((w.length : Int) > 5) && w.getD 0 [] == [108, 101, 116]) = true := by simp only [T5_, T3_, beq_iff_eq]; exact ⟨by omega, q.2⟩
 rw [this] at h; cases h
theorem alw_ (w : List Str) (c : Bool) (hc : c = true → w ≠ []) : (c = true → c = true ∧ (0 : Int) < w.length ∧ ((cb_ w).getD 0 []).length = 1) ∧ (c = true → (c = true ∧ 1 ≤ ((cb_ w).getD 0 []).length) ∧ ({ v := ((cb_ w).getD 0 []).getD 0 .no } : Eff) = { v := .s (w.getD 0 []) }) := by
 cases w with
 | nil => exact ⟨fun h => absurd rfl (hc h), fun h => absurd rfl (hc h)⟩
 | cons x r => simp [cb_]
theorem y4_ (w : List Str) (hw : smW w) (hl : w.length ≤ 100000) : ACall En 177 [.sl false (cb_ w)] [] [.ag (sC (rdS w))] [] := by
 have hs := aam_ w b7_
 simp only [b7_] at hs
 have hsw : IntKind.i64.wrap (ej_ w [115, 97, 121] + 1) = ej_ w [115, 97, 121] + 1 := bx_ (by omega) (by omega)
 have ht : 0 < ej_ w [115, 97, 121] → (ej_ w [115, 97, 121] + 1).toNat = (ej_ w [115, 97, 121]).toNat + 1 := fun h => by omega
 refine ao_ (fn := Tryz.f177) [] Tryz.func177 rfl rfl (by simp) fun C => ?_
 rw [bb_]
 simp only [Tryz.ntmps177, T7_, List.length_nil, Nat.reduceAdd, Nat.reduceSub, List.replicate_succ, List.replicate_zero, List.cons_append, List.nil_append, bu_]
 refine .seq (.rgn [] (by simp only [go_sem, seval, asO, ab_, aa_, br_, bq_, b7_, hsw, bi_]; rfl) ?_ ?_)
 ·(first | trivial | (simp; done) | (simp [bw_]; done) | (simp [bw_]; omega))
 refine .seq (.rgn [] (by simp only [go_sem, seval, asO, ab_, aa_, br_, bq_, b7_, hsw, bi_]; rfl) ?_ ?_)
 ·(first | trivial | (simp; done) | (simp [bw_]; done) | (simp [bw_]; omega))
 refine .seq (.block (.seq (.rgnS [12] [asO En { v := .s (w.getD 0 []) }] (by simp only [go_sem, seval, asO, ab_, aa_, br_, bq_, b7_, hsw, bi_]; rfl) ?_ ?_)))
 ·exact alw_ w _ (fun h e => by simp [e] at h)
 refine .condB (by simp only [go_sem, seval, asO, ab_, aa_, br_, bq_, b7_, hsw, bi_]; rfl) (by simp only [go_sem, seval, asO, ab_, aa_, br_, bq_, b7_, hsw, bi_]) (fun h5 => ?_) (fun h5 => ?_)
 ·refine .seq (.rgnD [] enM (by simp only [go_sem, seval, asO, ab_, aa_, br_, bq_, b7_, hsw, bi_, db_ (show 1 < w.length by have := wm_ h5; omega), db_ (show 3 < w.length by have := wm_ h5; omega)]; rfl) (by rfl) ?_ ?_)
  ·have := wm_ h5; (first | omega | (simp [bw_, cv_]; omega))
  refine .rgn [bj_ (ib_ (w.drop 5) (e4_ hw 5) (by simp; omega))] (by simp only [go_sem, seval, asO, ab_, aa_, br_, bq_, b7_, hsw, bi_]; rfl) ?_ ?_
  ·have := wm_ h5; simp [bw_, by_]; omega
  refine .seq (.rgn [] (by simp only [go_sem, seval, asO, ab_, aa_, br_, bq_, b7_, hsw, bi_]; rfl) ?_ ?_)
  ·(first | trivial | (simp; done) | (simp [bw_]; done) | (simp [bw_]; omega))
  refine .ret ⟨.inr rfl, ?_⟩
  exact Out.plainL (by simp only [Tryz.results177]; rfl) (by simp only [bd_, bo_, go_sem, seval, asO, ab_, aa_, br_, bq_, b7_, hsw, bi_] <;> (split <;> rfl)) (by simp only [bn_, go_sem, seval, asO, ab_, aa_, br_, bq_, b7_, hsw, bi_] <;> ((have e : rdS w = ⟨1, w.getD 1 [], w.getD 3 [], ex (w.drop 5), E0⟩ := (by unfold rdS; rw [if_pos (wm_ h5)])); rw [e, as_]; simp [les, leV, ler, by_, lm_, lp_, ld_, ex_, f1_])) (by simp only [go_sem, seval, asO, ab_, aa_, br_, bq_, b7_, hsw, bi_])
 ·refine .seq (.rgnS [38] [asO En { v := .s (w.getD 0 []) }] (by simp only [go_sem, seval, asO, ab_, aa_, br_, bq_, b7_, hsw, bi_]; rfl) ?_ ?_)
  ·exact ak3_ w
  refine .condB (by simp only [go_sem, seval, asO, ab_, aa_, br_, bq_, b7_, hsw, bi_]; rfl) (by simp only [go_sem, seval, asO, ab_, aa_, br_, bq_, b7_, hsw, bi_]) (fun h31 => ?_) (fun h31 => ?_)
  ·refine .seq (.rgn [] (by simp only [go_sem, seval, asO, ab_, aa_, br_, bq_, b7_, hsw, bi_]; rfl) ?_ ?_)
   ·(first | trivial | (simp; done) | (simp [bw_]; done) | (simp [bw_]; omega))
   refine .rgn [bj_ (ib_ (w.drop 1) (e4_ hw 1) (by simp; omega))] (by simp only [go_sem, seval, asO, ab_, aa_, br_, bq_, b7_, hsw, bi_]; rfl) ?_ ?_
   ·simp only [T5_, T3_] at h31; simp [bw_, by_]; omega
   refine .seq (.rgn [] (by simp only [go_sem, seval, asO, ab_, aa_, br_, bq_, b7_, hsw, bi_]; rfl) ?_ ?_)
   ·(first | trivial | (simp; done) | (simp [bw_]; done) | (simp [bw_]; omega))
   refine .ret ⟨.inr rfl, ?_⟩
   exact Out.plainL (by simp only [Tryz.results177]; rfl) (by simp only [bd_, bo_, go_sem, seval, asO, ab_, aa_, br_, bq_, b7_, hsw, bi_] <;> (split <;> rfl)) (by simp only [bn_, go_sem, seval, asO, ab_, aa_, br_, bq_, b7_, hsw, bi_] <;> ((have e : rdS w = ⟨2, [], [], ex (w.drop 1), E0⟩ := (by unfold rdS; rw [if_neg (z0_ h5), if_pos (by simpa [b7_] using h31)])); rw [e, as_]; simp [les, leV, ler, by_, lm_, lp_, ld_, ex_, f1_])) (by simp only [go_sem, seval, asO, ab_, aa_, br_, bq_, b7_, hsw, bi_])
  ·refine .seq (.rgnS [56] [asO En { v := .s (w.getD 0 []) }] (by simp only [go_sem, seval, asO, ab_, aa_, br_, bq_, b7_, hsw, bi_]; rfl) ?_ ?_)
   ·exact ak3_ w
   refine .condB (by simp only [go_sem, seval, asO, ab_, aa_, br_, bq_, b7_, hsw, bi_]; rfl) (by simp only [go_sem, seval, asO, ab_, aa_, br_, bq_, b7_, hsw, bi_]) (fun h49 => ?_) (fun h49 => ?_)
   ·refine .seq (.rgn [] (by simp only [go_sem, seval, asO, ab_, aa_, br_, bq_, b7_, hsw, bi_]; rfl) ?_ ?_)
    ·(first | trivial | (simp; done) | (simp [bw_]; done) | (simp [bw_]; omega))
    refine .seq (.rgn [bj_ (aa2_ w b7_ (by omega))] (by simp only [go_sem, seval, asO, ab_, aa_, br_, bq_, b7_, hsw, bi_]; rfl) ?_ ?_)
    ·(first | trivial | (simp; done) | (simp [bw_]; done) | (simp [bw_]; omega))
    refine .seq (.rgn [] (by simp only [go_sem, seval, asO, ab_, aa_, br_, bq_, b7_, hsw, bi_]; rfl) ?_ ?_)
    ·(first | trivial | (simp; done) | (simp [bw_]; done) | (simp [bw_]; omega))
    refine .condB (by simp only [go_sem, seval, asO, ab_, aa_, br_, bq_, b7_, hsw, bi_]; rfl) (by simp only [go_sem, seval, asO, ab_, aa_, br_, bq_, b7_, hsw, bi_]) (fun h63 => ?_) (fun h63 => ?_)
    ·refine .seq (.rgn [bj_ (ib_ ((w.take (ej_ w b7_).toNat).drop 1) (e4_ (mt_ hw _) 1) (by simp; omega))] (by simp only [go_sem, seval, asO, ab_, aa_, br_, bq_, b7_, hsw, bi_]; rfl) ?_ ?_)
     ·simp only [T3_] at h63; simp [bw_]; omega
     refine .rgn [bj_ (ib_ (w.drop ((ej_ w b7_).toNat + 1)) (e4_ hw _) (by simp; omega))] (by simp only [go_sem, seval, asO, ab_, aa_, br_, bq_, b7_, hsw, bi_, ht (by simpa using h63)]; rfl) ?_ ?_
     ·simp only [T3_] at h63; simp [bw_, by_]; omega
     refine .seq (.rgn [] (by simp only [go_sem, seval, asO, ab_, aa_, br_, bq_, b7_, hsw, bi_]; rfl) ?_ ?_)
     ·(first | trivial | (simp; done) | (simp [bw_]; done) | (simp [bw_]; omega))
     refine .ret ⟨.inr rfl, ?_⟩
     exact Out.plainL (by simp only [Tryz.results177]; rfl) (by simp only [bd_, bo_, go_sem, seval, asO, ab_, aa_, br_, bq_, b7_, hsw, bi_] <;> (split <;> rfl)) (by simp only [bn_, go_sem, seval, asO, ab_, aa_, br_, bq_, b7_, hsw, bi_] <;> ((have e : rdS w = ⟨3, [], [], ex ((w.take (ej_ w b7_).toNat).drop 1), ex (w.drop ((ej_ w b7_).toNat + 1))⟩ := (by unfold rdS; rw [if_neg (z0_ h5), if_neg (by simpa [b7_] using h31), if_pos (by simpa [ea_] using h49), if_pos (by simpa [b7_] using h63)])); rw [e, as_]; simp [b7_, les, leV, ler, by_])) (by simp only [go_sem, seval, asO, ab_, aa_, br_, bq_, b7_, hsw, bi_])
    ·refine .skip (.seq (.rgn [] (by simp only [go_sem, seval, asO, ab_, aa_, br_, bq_, b7_, hsw, bi_]; rfl) ?_ ?_))
     ·(first | trivial | (simp; done) | (simp [bw_]; done) | (simp [bw_]; omega))
     refine .ret ⟨.inr rfl, ?_⟩
     exact Out.plainL (by simp only [Tryz.results177]; rfl) (by simp only [bd_, bo_, go_sem, seval, asO, ab_, aa_, br_, bq_, b7_, hsw, bi_] <;> (split <;> rfl)) (by simp only [bn_, go_sem, seval, asO, ab_, aa_, br_, bq_, b7_, hsw, bi_] <;> ((have e : rdS w = ⟨3, [], [], E0, E0⟩ := (by unfold rdS; rw [if_neg (z0_ h5), if_neg (by simpa [b7_] using h31), if_pos (by simpa [ea_] using h49), if_neg (by simpa [b7_] using h63)])); rw [e, as_]; simp [les, leV, ler, by_, lm_, lp_, ld_, ex_, f1_])) (by simp only [go_sem, seval, asO, ab_, aa_, br_, bq_, b7_, hsw, bi_])
   ·refine .skip (.seq (.rgn [] (by simp only [go_sem, seval, asO, ab_, aa_, br_, bq_, b7_, hsw, bi_]; rfl) ?_ ?_))
    ·(first | trivial | (simp; done) | (simp [bw_]; done) | (simp [bw_]; omega))
    refine .ret ⟨.inr rfl, ?_⟩
    exact Out.plainL (by simp only [Tryz.results177]; rfl) (by simp only [bd_, bo_, go_sem, seval, asO, ab_, aa_, br_, bq_, b7_, hsw, bi_] <;> (split <;> rfl)) (by simp only [bn_, go_sem, seval, asO, ab_, aa_, br_, bq_, b7_, hsw, bi_] <;> ((have e : rdS w = S0 := (by unfold rdS; rw [if_neg (z0_ h5), if_neg (by simpa [b7_] using h31), if_neg (by simpa [ea_] using h49)])); rw [e, as_]; simp [S0, les, leV, ler, by_, lm_, lp_, ld_, ex_, f1_])) (by simp only [go_sem, seval, asO, ab_, aa_, br_, bq_, b7_, hsw, bi_])
theorem pw_ {line : Str} (h : ¬ ((c0_ line).isSome = true ∧ sok (rdS (du_ line)) = true ∧ vq_ (rdS (du_ line)) = line)) : d4_ line = none := by
 unfold d4_ du_ at *
 cases ht : c0_ line with
 | none => rfl
 | some ts =>
  rw [ht] at h
  simp only [Option.getD_some] at h
  dsimp only
  rw [if_neg]
  rintro ⟨h1, h2⟩
  exact h ⟨rfl, h1, by unfold vq_; rw [if_pos h1]; exact h2⟩
theorem p0_ {line : Str} (h : (c0_ line).isSome = true) (h1 : sok (rdS (du_ line)) = true) (h2 : vq_ (rdS (du_ line)) = line) : d4_ line = some (rdS (du_ line)) := by
 unfold d4_ du_ at *
 cases ht : c0_ line with
 | none => rw [ht] at h; cases h
 | some ts =>
  rw [ht] at h1 h2
  simp only [Option.getD_some] at h1 h2 ⊢
  rw [if_pos ⟨h1, by unfold vq_ at h2; rw [if_pos h1] at h2; exact h2⟩]
theorem wv_ (line : Str) (hl : line.length ≤ 281474976710656) : ACall En 125 [.s line] [] [.ag (sC ((d4_ line).getD S0)), .b (d4_ line).isSome] [] := by
 obtain ⟨w1, w2⟩ := uk_ line
 have hs := ad8_ w1
 refine ao_ (fn := Tryz.f125) [] Tryz.func125 rfl rfl (by simp) fun C => ?_
 rw [bb_]
 simp only [Tryz.ntmps125, T7_, List.length_nil, Nat.reduceAdd, Nat.reduceSub, List.replicate_succ, List.replicate_zero, List.cons_append, List.nil_append, bu_]
 refine .seq (.rgn [] (by simp only [go_sem, seval, aa_, bi_, as_]; rfl) ?_ ?_)
 ·first | trivial | simp
 refine .seq (.rgn [bj_ (acn_ line hl)] (by simp only [go_sem, seval, aa_, bi_, as_]; rfl) ?_ ?_)
 ·first | trivial | simp
 refine .seq (.rgn [bj_ (y4_ (du_ line) w1 (by omega))] (by simp only [go_sem, seval, aa_, bi_, as_]; rfl) ?_ ?_)
 ·first | trivial | simp
 refine .seq (.seq (.rgn [bj_ (sc_ (rdS (du_ line)) hs), bj_ (vn_ (rdS (du_ line)) hs)] (by simp only [go_sem, seval, aa_, bi_, as_]; rfl) ?_ ?_))
 ·first | trivial | simp
 refine .condB (by simp only [go_sem, seval, aa_, bi_, as_]; rfl) (by simp only [go_sem, seval, aa_, bi_, as_]) (fun h26 => ?_) (fun h26 => ?_)
 ·refine .seq (.rgn [] (by simp only [go_sem, seval, aa_, bi_, as_]; rfl) ?_ ?_)
  ·first | trivial | simp
  refine .ret ⟨.inr rfl, ?_⟩
  exact Out.plainL (by simp only [Tryz.results125]; rfl) (by simp only [bd_, bo_, go_sem, seval, aa_, bi_, as_] <;> (split <;> rfl)) (by simp only [bn_, go_sem, seval, aa_, bi_, as_] <;> (rw [pw_ (by intro q; simp [q.1, q.2.1, q.2.2] at h26)]; simp [S0, les, leV, ler, by_, lm_, lp_, ld_, ex_, f1_])) (by simp only [go_sem, seval, aa_, bi_, as_])
 ·refine .skip (.seq (.rgn [] (by simp only [go_sem, seval, aa_, bi_, as_]; rfl) ?_ ?_))
  ·first | trivial | simp
  refine .ret ⟨.inr rfl, ?_⟩
  exact Out.plainL (by simp only [Tryz.results125]; rfl) (by simp only [bd_, bo_, go_sem, seval, aa_, bi_, as_] <;> (split <;> rfl)) (by simp only [bn_, go_sem, seval, aa_, bi_, as_] <;> (rw [p0_ (by simp at h26; exact h26.1.1) (by simp at h26; exact h26.1.2) (by simp at h26; exact h26.2)]; simp [les, leV, ler, by_])) (by simp only [go_sem, seval, aa_, bi_, as_])
end
end Go.Proofs.YtefmbmafdgedmaaGreatDoor
