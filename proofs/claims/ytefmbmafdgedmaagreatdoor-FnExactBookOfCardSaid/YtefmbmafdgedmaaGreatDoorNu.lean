/- Lines are read: the program's. Conditions: none. -/
import Derived.Test.YtefmbmafdgedmaaGreatDoorNt
import Derived.Test.YtefmbmafdgedmaaGreatDoorNn
import Derived.Test.YtefmbmafdgedmaaGreatDoorNl
set_option linter.unusedVariables false
set_option linter.unusedSimpArgs false
namespace Go.Proofs.YtefmbmafdgedmaaGreatDoor
section
set_option maxRecDepth 100000
set_option maxHeartbeats 8000000
theorem az_ (l : List Str) (k : Nat) : (bm_ l).drop k = bm_ (l.drop k) := by simp [bm_, List.map_drop]
theorem a0_ (l : List Str) (k : Nat) : (bm_ l).take k = bm_ (l.take k) := by simp [bm_, List.map_take]
theorem ec_ {l : List Str} (h : smW l) (k : Nat) : smW (l.drop k) := fun w hw => h w (List.mem_of_mem_drop hw)
theorem lg_ {l : List Str} (h : smW l) (k : Nat) : smW (l.take k) := fun w hw => h w (List.mem_of_mem_take hw)
def c6_ (s : Str) : List Str := ((cg_ s).getD []).map (·.s)
theorem l9_ : ∀ (n : Nat) (l : Str) (c : Int) (t : List Tk), ez_ n l c = some t → t.length ≤ l.length
 | 0, l, c, t, h => by simp [ez_] at h; subst h; simp
 | n + 1, [], c, t, h => by simp [ez_] at h; subst h; simp
 | n + 1, x :: l, c, t, h => by
  simp only [ez_] at h
  split at h
  ·have := l9_ n l _ t h; simp only [List.length_cons]; omega
  ·split at h
   ·cases h
   ·obtain ⟨u, hu, rfl⟩ := Option.map_eq_some_iff.1 h
    have h1 := l9_ n _ _ u hu
    have h2 := k6_ (x :: l)
    rw [List.length_drop] at h1
    simp only [List.length_cons] at h1 ⊢; omega
theorem oa_ (s : Str) : ((cg_ s).getD []).length ≤ 120 := by
 cases h : cg_ s with
 | none => simp
 | some t =>
  unfold cg_ at h
  split at h
  ·cases h
  ·have := l9_ _ _ _ _ h; simp only [Option.getD_some]; omega
theorem wk_ (l : List Str) (s : Str) : -1 ≤ dy_ l s ∧ dy_ l s < l.length := by
 unfold dy_
 split
 ·rename_i h
  have := List.idxOf_lt_length_iff.2 h
  omega
 ·omega
theorem yc_ (s : Str) (hs : s.length ≤ 281474976710656) : ACall En 63 [.s s] [] [.sl false (bm_ (c6_ s)), .b (cg_ s).isSome] [] := by
 have T := yj_ s hs
 have hb := oa_ s
 unfold c6_
 generalize (cg_ s).getD [] = ts at *
 have hp : ∀ k, cf_ (dj_ (bm_ (ts.map (·.s))) [.s []] k) = true := fun k => hw_ (aa_ _) rfl
 have hll : (bm_ (ts.map (·.s))).length = ts.length := by simp [bm_]
 refine ah_ (fn := Tryz.f63) [] Tryz.func63 rfl rfl (by simp) fun C => ?_
 rw [ar_]
 simp only [Tryz.ntmps63, List.length_cons, List.length_nil, Nat.reduceAdd, Nat.reduceSub, List.replicate_succ, List.replicate_zero, List.cons_append, List.nil_append, bd_]
 refine .seq (.rgn [] (by simp only [go_sem, seval, ao_, aj_, hp, a5_, ai_, hll]; rfl) ?_ ?_)
 ·first | trivial | simp
 refine .seq (.rgn [a2_ T] (by simp only [go_sem, seval, ao_, aj_, hp, a5_, ai_, hll]; rfl) ?_ ?_)
 ·first | trivial | simp
 refine .seq (.rgn [] (by simp only [go_sem, seval, ao_, aj_, hp, a5_, ai_, hll]; rfl) ?_ ?_)
 ·simp; omega
 refine .seq (.seq (.rgn [] (by simp only [go_sem, seval, ao_, aj_, hp, a5_, ai_, hll]; rfl) ?_ ?_))
 ·first | trivial | simp
 refine .block (.loopK (fun k : Nat => ⟨[.no, .no, .no, .no, .no, .b (cg_ s).isSome, .ow 26 1 0 ts.length, .no, .no, .no, .no, .no, .no, .no, .no, .no, .no, .sl false (tkR ts), .i .i64 ts.length, .i .i64 k, .no, .no, .no, .no, .no, .no, .no, .no, .no, .no, .no, .no], aw_ [(26, ⟨9, 1, dj_ (bm_ (ts.map (·.s))) [.s []] k⟩)], us [26]⟩) (fun k : Nat => k ≤ ts.length) (fun k : Nat => ts.length - k) (0) ?_ ?_ (fun k hI => ?_))
 ·simp
 ·exact Can.weak (Weak.lit (by simp only [go_sem, seval, ao_, aj_, hp, a5_, ai_, hll, an_, leV, al_, am_, V.inn, us, true_or, or_true] <;> (simp)) (by simp only [go_sem, seval, ao_, aj_, hp, a5_, ai_, hll, an_, leV, al_, am_, V.inn, us, true_or, or_true]) (by simp only [go_sem, seval, ao_, aj_, hp, a5_, ai_, hll, an_, leV, al_, am_, V.inn, us, true_or, or_true] <;> (simp [go_, hll])))
 refine .seq (.rgn [] (by simp only [go_sem, seval, ao_, aj_, hp, a5_, ai_, hll]; rfl) ?_ ?_)
 ·first | trivial | simp
 refine .seq (.condB (by simp only [go_sem, seval, ao_, aj_, hp, a5_, ai_, hll]; rfl) (by simp only [go_sem, seval, ao_, aj_, hp, a5_, ai_, hll]) (fun h20 => ?_) (fun h20 => ?_))
 ·refine .skip (.seq (.block (.seq (.rgn [] (by simp only [go_sem, seval, ao_, aj_, hp, a5_, ai_, hll, ws_ (show k < ts.length by simpa using h20)]; rfl) ?_ ?_))))
  ·simp at h20; simp; omega
  refine .rgn [] (by simp only [go_sem, seval, ao_, aj_, hp, a5_, ai_, hll]; rfl) ?_ ?_
  ·simp at h20; simp; omega
  refine .rgn [] (by simp only [go_sem, seval, ao_, aj_, hp, a5_, ai_, hll]; rfl) ?_ ?_
  ·first | trivial | simp
  refine Exists.intro (k + 1) ⟨?_, ?_, ?_⟩
  ·simp at h20; omega
  ·simp at h20; omega
  exact Can.weak (Weak.lit (by simp only [go_sem, seval, ao_, aj_, hp, a5_, ai_, hll, an_, leV, al_, am_, V.inn, us, true_or, or_true] <;> (rw [bc_ (by simp at h20; omega) (by simp at h20; omega)]; simp)) (by simp only [go_sem, seval, ao_, aj_, hp, a5_, ai_, hll, an_, leV, al_, am_, V.inn, us, true_or, or_true]) (by simp only [go_sem, seval, ao_, aj_, hp, a5_, ai_, hll, an_, leV, al_, am_, V.inn, us, true_or, or_true] <;> ((rw [← gw_ (by rw [hll]; simpa using h20), co_ (by simpa using h20)]; simp [List.getD_eq_getElem?_getD, List.getElem?_eq_getElem (show k < ts.length by simpa using h20)]))))
 ·refine .exit (.seq (.rgn [] (by simp only [go_sem, seval, ao_, aj_, hp, a5_, ai_, hll]; rfl) ?_ ?_))
  ·first | trivial | simp
  refine .frz 26 (by simp only [go_sem, seval, ao_, aj_, hp, a5_, ai_, hll]; rfl) (by simp only [go_sem, seval, ao_, aj_, hp, a5_, ai_, hll]) (by simp only [go_sem, seval, ao_, aj_, hp, a5_, ai_, hll]; rfl) (by simp only [go_sem, seval, ao_, aj_, hp, a5_, ai_, hll]; rfl) ?_
  refine .ret ⟨.inr rfl, ?_⟩
  exact Out.plain (by simp only [Tryz.results63]; rfl) (by simp only [aq_, a8_, go_sem, seval, ao_, aj_, hp, a5_, ai_, hll] <;> (split <;> rfl)) (by simp only [a7_, go_sem, seval, ao_, aj_, hp, a5_, ai_, hll] <;> (simp at h20; rw [gu_ (by omega)]; simp [← hll, List.take_of_length_le, peel])) (by simp only [go_sem, seval, ao_, aj_, hp, a5_, ai_, hll])
theorem af9_ (w : List Str) : (decide ((w.length : Int) > 0) = true → decide ((w.length : Int) > 0) = true ∧ (0 : Int) < w.length ∧ ((bm_ w).getD 0 []).length = 1) ∧ (decide ((w.length : Int) > 0) = true → (decide ((w.length : Int) > 0) = true ∧ 1 ≤ ((bm_ w).getD 0 []).length) ∧ ({ v := ((bm_ w).getD 0 []).getD 0 .no } : Eff) = { v := .s (w.getD 0 []) }) := by
 cases w with
 | nil => simp
 | cons x r => simp [bm_]
end
section
set_option maxRecDepth 100000
set_option maxHeartbeats 8000000
theorem w1_ {w : List Str} (h : smW w) : sm (ex w) = true := by
 have hS := ((i_sm 500).1 1 ⟨w, false, 0⟩ h).1
 unfold ex fc_
 split
 ·split
  ·exact (show sm E0 = true by decide)
  ·exact hS
 ·exact (show sm E0 = true by decide)
theorem j5_ : ∀ (n : Nat) (l : Str) (c : Int) (t : List Tk), ez_ n l c = some t → ∀ x ∈ t, x.s.length ≤ l.length
 | 0, l, c, t, h => by simp [ez_] at h; subst h; intro x hx; cases hx
 | n + 1, [], c, t, h => by simp [ez_] at h; subst h; intro x hx; cases hx
 | n + 1, y :: l, c, t, h => by
  simp only [ez_] at h
  split at h
  ·intro x hx; have := j5_ n l _ t h x hx; simp only [List.length_cons]; omega
  ·split at h
   ·cases h
   ·obtain ⟨u, hu, rfl⟩ := Option.map_eq_some_iff.1 h
    intro x hx
    rcases List.mem_cons.1 hx with rfl | hx
    ·simp only [List.length_take]; omega
    ·have h1 := j5_ n _ _ u hu x hx
     rw [List.length_drop] at h1; omega
theorem r2_ (s : Str) : smW (c6_ s) ∧ (c6_ s).length ≤ 120 := by
 refine ⟨?_, by unfold c6_; rw [List.length_map]; exact oa_ s⟩
 unfold c6_
 cases h : cg_ s with
 | none => intro w hw; simp at hw
 | some t =>
  unfold cg_ at h
  split at h
  ·cases h
  ·intro w hw
   simp only [Option.getD_some] at hw
   obtain ⟨x, hx, rfl⟩ := List.mem_map.1 hw
   have := j5_ _ _ _ _ h x hx
   omega
theorem wr_ {w : List Str} (h : smW w) (k : Nat) : (w.getD k []).length ≤ 281474976710656 := by
 rw [List.getD_eq_getElem?_getD]
 cases hk : w[k]? with
 | none => simp
 | some x => exact h x (List.mem_of_getElem? hk)
theorem au_ (s : Sl) : cv_ (sC s) = true := by rw [ag_]; simp only [cv_, V.pure, il_, Bool.and_self]
theorem ab6_ {w : List Str} (h : smW w) : gi_ (rdS w) = true := by
 have g := wr_ h
 have e := fun k => w1_ (ec_ h k)
 have e0 : sm E0 = true := by decide
 unfold rdS
 split
 ·simp only [gi_, e, e0, Bool.and_true, Bool.and_eq_true, decide_eq_true_eq]; have := g 1; have := g 3; omega
 ·split
  ·simp only [gi_, e, e0, Bool.and_true]; rfl
  ·split
   ·split
    ·simp only [gi_, e, w1_ (ec_ (lg_ h _) 1), Bool.and_true]; rfl
    ·simp only [gi_, e0, Bool.and_true]; rfl
   ·decide
theorem uh_ {w : List Str} (h : (decide ((w.length : Int) > 5) && w.getD 0 [] == [108, 101, 116]) = true) : 5 < w.length ∧ w.getD 0 [] = hn_ := by
 simp only [Bool.and_eq_true, decide_eq_true_eq, beq_iff_eq] at h; exact ⟨by omega, h.2⟩
theorem wv_ {w : List Str} (h : (decide ((w.length : Int) > 5) && w.getD 0 [] == [108, 101, 116]) = false) : ¬ (5 < w.length ∧ w.getD 0 [] = hn_) := fun q => by
 have : (decide ((w.length : Int) > 5) && w.getD 0 [] == [108, 101, 116]) = true := by simp only [Bool.and_eq_true, decide_eq_true_eq, beq_iff_eq]; exact ⟨by omega, q.2⟩
 rw [this] at h; cases h
theorem ah5_ (w : List Str) (c : Bool) (hc : c = true → w ≠ []) : (c = true → c = true ∧ (0 : Int) < w.length ∧ ((bm_ w).getD 0 []).length = 1) ∧ (c = true → (c = true ∧ 1 ≤ ((bm_ w).getD 0 []).length) ∧ ({ v := ((bm_ w).getD 0 []).getD 0 .no } : Eff) = { v := .s (w.getD 0 []) }) := by
 cases w with
 | nil => exact ⟨fun h => absurd rfl (hc h), fun h => absurd rfl (hc h)⟩
 | cons x r => simp [bm_]
theorem vd_ (w : List Str) (hw : smW w) (hl : w.length ≤ 100000) : ACall En 177 [.sl false (bm_ w)] [] [.ag (sC (rdS w))] [] := by
 have hs := wk_ w bj_
 simp only [bj_] at hs
 have hsw : IntKind.i64.wrap (dy_ w [115, 97, 121] + 1) = dy_ w [115, 97, 121] + 1 := bc_ (by omega) (by omega)
 have ht : 0 < dy_ w [115, 97, 121] → (dy_ w [115, 97, 121] + 1).toNat = (dy_ w [115, 97, 121]).toNat + 1 := fun h => by omega
 refine ah_ (fn := Tryz.f177) [] Tryz.func177 rfl rfl (by simp) fun C => ?_
 rw [ar_]
 simp only [Tryz.ntmps177, List.length_cons, List.length_nil, Nat.reduceAdd, Nat.reduceSub, List.replicate_succ, List.replicate_zero, List.cons_append, List.nil_append, bd_]
 refine .seq (.rgn [] (by simp only [go_sem, seval, asO, ab_, aa_, az_, a0_, bj_, hsw, au_]; rfl) ?_ ?_)
 ·(first | trivial | (simp; done) | (simp [a6_]; done) | (simp [a6_]; omega))
 refine .seq (.rgn [] (by simp only [go_sem, seval, asO, ab_, aa_, az_, a0_, bj_, hsw, au_]; rfl) ?_ ?_)
 ·(first | trivial | (simp; done) | (simp [a6_]; done) | (simp [a6_]; omega))
 refine .seq (.block (.seq (.rgnS [12] [asO En { v := .s (w.getD 0 []) }] (by simp only [go_sem, seval, asO, ab_, aa_, az_, a0_, bj_, hsw, au_]; rfl) ?_ ?_)))
 ·exact ah5_ w _ (fun h e => by simp [e] at h)
 refine .condB (by simp only [go_sem, seval, asO, ab_, aa_, az_, a0_, bj_, hsw, au_]; rfl) (by simp only [go_sem, seval, asO, ab_, aa_, az_, a0_, bj_, hsw, au_]) (fun h5 => ?_) (fun h5 => ?_)
 ·refine .seq (.rgnD [] enM (by simp only [go_sem, seval, asO, ab_, aa_, az_, a0_, bj_, hsw, au_, co_ (show 1 < w.length by have := uh_ h5; omega), co_ (show 3 < w.length by have := uh_ h5; omega)]; rfl) (by rfl) ?_ ?_)
  ·have := uh_ h5; (first | omega | (simp [a6_, cc_]; omega))
  refine .rgn [a2_ (hi_ (w.drop 5) (ec_ hw 5) (by simp; omega))] (by simp only [go_sem, seval, asO, ab_, aa_, az_, a0_, bj_, hsw, au_]; rfl) ?_ ?_
  ·have := uh_ h5; simp [a6_, ba_]; omega
  refine .seq (.rgn [] (by simp only [go_sem, seval, asO, ab_, aa_, az_, a0_, bj_, hsw, au_]; rfl) ?_ ?_)
  ·(first | trivial | (simp; done) | (simp [a6_]; done) | (simp [a6_]; omega))
  refine .ret ⟨.inr rfl, ?_⟩
  exact Out.plainL (by simp only [Tryz.results177]; rfl) (by simp only [aq_, a8_, go_sem, seval, asO, ab_, aa_, az_, a0_, bj_, hsw, au_] <;> (split <;> rfl)) (by simp only [a7_, go_sem, seval, asO, ab_, aa_, az_, a0_, bj_, hsw, au_] <;> ((have e : rdS w = ⟨1, w.getD 1 [], w.getD 3 [], ex (w.drop 5), E0⟩ := (by unfold rdS; rw [if_pos (uh_ h5)])); rw [e, ag_]; simp [les, leV, ler, ba_, j9_, jy_, ka_, d9_, e8_])) (by simp only [go_sem, seval, asO, ab_, aa_, az_, a0_, bj_, hsw, au_])
 ·refine .seq (.rgnS [38] [asO En { v := .s (w.getD 0 []) }] (by simp only [go_sem, seval, asO, ab_, aa_, az_, a0_, bj_, hsw, au_]; rfl) ?_ ?_)
  ·exact af9_ w
  refine .condB (by simp only [go_sem, seval, asO, ab_, aa_, az_, a0_, bj_, hsw, au_]; rfl) (by simp only [go_sem, seval, asO, ab_, aa_, az_, a0_, bj_, hsw, au_]) (fun h31 => ?_) (fun h31 => ?_)
  ·refine .seq (.rgn [] (by simp only [go_sem, seval, asO, ab_, aa_, az_, a0_, bj_, hsw, au_]; rfl) ?_ ?_)
   ·(first | trivial | (simp; done) | (simp [a6_]; done) | (simp [a6_]; omega))
   refine .rgn [a2_ (hi_ (w.drop 1) (ec_ hw 1) (by simp; omega))] (by simp only [go_sem, seval, asO, ab_, aa_, az_, a0_, bj_, hsw, au_]; rfl) ?_ ?_
   ·simp only [Bool.and_eq_true, decide_eq_true_eq] at h31; simp [a6_, ba_]; omega
   refine .seq (.rgn [] (by simp only [go_sem, seval, asO, ab_, aa_, az_, a0_, bj_, hsw, au_]; rfl) ?_ ?_)
   ·(first | trivial | (simp; done) | (simp [a6_]; done) | (simp [a6_]; omega))
   refine .ret ⟨.inr rfl, ?_⟩
   exact Out.plainL (by simp only [Tryz.results177]; rfl) (by simp only [aq_, a8_, go_sem, seval, asO, ab_, aa_, az_, a0_, bj_, hsw, au_] <;> (split <;> rfl)) (by simp only [a7_, go_sem, seval, asO, ab_, aa_, az_, a0_, bj_, hsw, au_] <;> ((have e : rdS w = ⟨2, [], [], ex (w.drop 1), E0⟩ := (by unfold rdS; rw [if_neg (wv_ h5), if_pos (by simpa [bj_] using h31)])); rw [e, ag_]; simp [les, leV, ler, ba_, j9_, jy_, ka_, d9_, e8_])) (by simp only [go_sem, seval, asO, ab_, aa_, az_, a0_, bj_, hsw, au_])
  ·refine .seq (.rgnS [56] [asO En { v := .s (w.getD 0 []) }] (by simp only [go_sem, seval, asO, ab_, aa_, az_, a0_, bj_, hsw, au_]; rfl) ?_ ?_)
   ·exact af9_ w
   refine .condB (by simp only [go_sem, seval, asO, ab_, aa_, az_, a0_, bj_, hsw, au_]; rfl) (by simp only [go_sem, seval, asO, ab_, aa_, az_, a0_, bj_, hsw, au_]) (fun h49 => ?_) (fun h49 => ?_)
   ·refine .seq (.rgn [] (by simp only [go_sem, seval, asO, ab_, aa_, az_, a0_, bj_, hsw, au_]; rfl) ?_ ?_)
    ·(first | trivial | (simp; done) | (simp [a6_]; done) | (simp [a6_]; omega))
    refine .seq (.rgn [a2_ (xa_ w bj_ (by omega))] (by simp only [go_sem, seval, asO, ab_, aa_, az_, a0_, bj_, hsw, au_]; rfl) ?_ ?_)
    ·(first | trivial | (simp; done) | (simp [a6_]; done) | (simp [a6_]; omega))
    refine .seq (.rgn [] (by simp only [go_sem, seval, asO, ab_, aa_, az_, a0_, bj_, hsw, au_]; rfl) ?_ ?_)
    ·(first | trivial | (simp; done) | (simp [a6_]; done) | (simp [a6_]; omega))
    refine .condB (by simp only [go_sem, seval, asO, ab_, aa_, az_, a0_, bj_, hsw, au_]; rfl) (by simp only [go_sem, seval, asO, ab_, aa_, az_, a0_, bj_, hsw, au_]) (fun h63 => ?_) (fun h63 => ?_)
    ·refine .seq (.rgn [a2_ (hi_ ((w.take (dy_ w bj_).toNat).drop 1) (ec_ (lg_ hw _) 1) (by simp; omega))] (by simp only [go_sem, seval, asO, ab_, aa_, az_, a0_, bj_, hsw, au_]; rfl) ?_ ?_)
     ·simp only [decide_eq_true_eq] at h63; simp [a6_]; omega
     refine .rgn [a2_ (hi_ (w.drop ((dy_ w bj_).toNat + 1)) (ec_ hw _) (by simp; omega))] (by simp only [go_sem, seval, asO, ab_, aa_, az_, a0_, bj_, hsw, au_, ht (by simpa using h63)]; rfl) ?_ ?_
     ·simp only [decide_eq_true_eq] at h63; simp [a6_, ba_]; omega
     refine .seq (.rgn [] (by simp only [go_sem, seval, asO, ab_, aa_, az_, a0_, bj_, hsw, au_]; rfl) ?_ ?_)
     ·(first | trivial | (simp; done) | (simp [a6_]; done) | (simp [a6_]; omega))
     refine .ret ⟨.inr rfl, ?_⟩
     exact Out.plainL (by simp only [Tryz.results177]; rfl) (by simp only [aq_, a8_, go_sem, seval, asO, ab_, aa_, az_, a0_, bj_, hsw, au_] <;> (split <;> rfl)) (by simp only [a7_, go_sem, seval, asO, ab_, aa_, az_, a0_, bj_, hsw, au_] <;> ((have e : rdS w = ⟨3, [], [], ex ((w.take (dy_ w bj_).toNat).drop 1), ex (w.drop ((dy_ w bj_).toNat + 1))⟩ := (by unfold rdS; rw [if_neg (wv_ h5), if_neg (by simpa [bj_] using h31), if_pos (by simpa [dr_] using h49), if_pos (by simpa [bj_] using h63)])); rw [e, ag_]; simp [bj_, les, leV, ler, ba_])) (by simp only [go_sem, seval, asO, ab_, aa_, az_, a0_, bj_, hsw, au_])
    ·refine .skip (.seq (.rgn [] (by simp only [go_sem, seval, asO, ab_, aa_, az_, a0_, bj_, hsw, au_]; rfl) ?_ ?_))
     ·(first | trivial | (simp; done) | (simp [a6_]; done) | (simp [a6_]; omega))
     refine .ret ⟨.inr rfl, ?_⟩
     exact Out.plainL (by simp only [Tryz.results177]; rfl) (by simp only [aq_, a8_, go_sem, seval, asO, ab_, aa_, az_, a0_, bj_, hsw, au_] <;> (split <;> rfl)) (by simp only [a7_, go_sem, seval, asO, ab_, aa_, az_, a0_, bj_, hsw, au_] <;> ((have e : rdS w = ⟨3, [], [], E0, E0⟩ := (by unfold rdS; rw [if_neg (wv_ h5), if_neg (by simpa [bj_] using h31), if_pos (by simpa [dr_] using h49), if_neg (by simpa [bj_] using h63)])); rw [e, ag_]; simp [les, leV, ler, ba_, j9_, jy_, ka_, d9_, e8_])) (by simp only [go_sem, seval, asO, ab_, aa_, az_, a0_, bj_, hsw, au_])
   ·refine .skip (.seq (.rgn [] (by simp only [go_sem, seval, asO, ab_, aa_, az_, a0_, bj_, hsw, au_]; rfl) ?_ ?_))
    ·(first | trivial | (simp; done) | (simp [a6_]; done) | (simp [a6_]; omega))
    refine .ret ⟨.inr rfl, ?_⟩
    exact Out.plainL (by simp only [Tryz.results177]; rfl) (by simp only [aq_, a8_, go_sem, seval, asO, ab_, aa_, az_, a0_, bj_, hsw, au_] <;> (split <;> rfl)) (by simp only [a7_, go_sem, seval, asO, ab_, aa_, az_, a0_, bj_, hsw, au_] <;> ((have e : rdS w = S0 := (by unfold rdS; rw [if_neg (wv_ h5), if_neg (by simpa [bj_] using h31), if_neg (by simpa [dr_] using h49)])); rw [e, ag_]; simp [S0, les, leV, ler, ba_, j9_, jy_, ka_, d9_, e8_])) (by simp only [go_sem, seval, asO, ab_, aa_, az_, a0_, bj_, hsw, au_])
theorem o9_ {line : Str} (h : ¬ ((cg_ line).isSome = true ∧ sok (rdS (c6_ line)) = true ∧ s1_ (rdS (c6_ line)) = line)) : dq_ line = none := by
 unfold dq_ c6_ at *
 cases ht : cg_ line with
 | none => rfl
 | some ts =>
  rw [ht] at h
  simp only [Option.getD_some] at h
  dsimp only
  rw [if_neg]
  rintro ⟨h1, h2⟩
  exact h ⟨rfl, h1, by unfold s1_; rw [if_pos h1]; exact h2⟩
theorem n7_ {line : Str} (h : (cg_ line).isSome = true) (h1 : sok (rdS (c6_ line)) = true) (h2 : s1_ (rdS (c6_ line)) = line) : dq_ line = some (rdS (c6_ line)) := by
 unfold dq_ c6_ at *
 cases ht : cg_ line with
 | none => rw [ht] at h; cases h
 | some ts =>
  rw [ht] at h1 h2
  simp only [Option.getD_some] at h1 h2 ⊢
  rw [if_pos ⟨h1, by unfold s1_ at h2; rw [if_pos h1] at h2; exact h2⟩]
theorem mj_ (line : Str) (hl : line.length ≤ 281474976710656) : ACall En 125 [.s line] [] [.ag (sC ((dq_ line).getD S0)), .b (dq_ line).isSome] [] := by
 obtain ⟨w1, w2⟩ := r2_ line
 have hs := ab6_ w1
 refine ah_ (fn := Tryz.f125) [] Tryz.func125 rfl rfl (by simp) fun C => ?_
 rw [ar_]
 simp only [Tryz.ntmps125, List.length_cons, List.length_nil, Nat.reduceAdd, Nat.reduceSub, List.replicate_succ, List.replicate_zero, List.cons_append, List.nil_append, bd_]
 refine .seq (.rgn [] (by simp only [go_sem, seval, aa_, au_, ag_]; rfl) ?_ ?_)
 ·first | trivial | simp
 refine .seq (.rgn [a2_ (yc_ line hl)] (by simp only [go_sem, seval, aa_, au_, ag_]; rfl) ?_ ?_)
 ·first | trivial | simp
 refine .seq (.rgn [a2_ (vd_ (c6_ line) w1 (by omega))] (by simp only [go_sem, seval, aa_, au_, ag_]; rfl) ?_ ?_)
 ·first | trivial | simp
 refine .seq (.seq (.rgn [a2_ (qt_ (rdS (c6_ line)) hs), a2_ (tf_ (rdS (c6_ line)) hs)] (by simp only [go_sem, seval, aa_, au_, ag_]; rfl) ?_ ?_))
 ·first | trivial | simp
 refine .condB (by simp only [go_sem, seval, aa_, au_, ag_]; rfl) (by simp only [go_sem, seval, aa_, au_, ag_]) (fun h26 => ?_) (fun h26 => ?_)
 ·refine .seq (.rgn [] (by simp only [go_sem, seval, aa_, au_, ag_]; rfl) ?_ ?_)
  ·first | trivial | simp
  refine .ret ⟨.inr rfl, ?_⟩
  exact Out.plainL (by simp only [Tryz.results125]; rfl) (by simp only [aq_, a8_, go_sem, seval, aa_, au_, ag_] <;> (split <;> rfl)) (by simp only [a7_, go_sem, seval, aa_, au_, ag_] <;> (rw [o9_ (by intro q; simp [q.1, q.2.1, q.2.2] at h26)]; simp [S0, les, leV, ler, ba_, j9_, jy_, ka_, d9_, e8_])) (by simp only [go_sem, seval, aa_, au_, ag_])
 ·refine .skip (.seq (.rgn [] (by simp only [go_sem, seval, aa_, au_, ag_]; rfl) ?_ ?_))
  ·first | trivial | simp
  refine .ret ⟨.inr rfl, ?_⟩
  exact Out.plainL (by simp only [Tryz.results125]; rfl) (by simp only [aq_, a8_, go_sem, seval, aa_, au_, ag_] <;> (split <;> rfl)) (by simp only [a7_, go_sem, seval, aa_, au_, ag_] <;> (rw [n7_ (by simp at h26; exact h26.1.1) (by simp at h26; exact h26.1.2) (by simp at h26; exact h26.2)]; simp [les, leV, ler, ba_])) (by simp only [go_sem, seval, aa_, au_, ag_])
end
end Go.Proofs.YtefmbmafdgedmaaGreatDoor
