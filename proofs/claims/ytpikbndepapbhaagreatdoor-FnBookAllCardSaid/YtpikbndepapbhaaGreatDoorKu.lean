/- Lines are read: the program's. Conditions: none. -/
import Derived.Test.YtpikbndepapbhaaGreatDoorKt
import Derived.Test.YtpikbndepapbhaaGreatDoorKn
import Derived.Test.YtpikbndepapbhaaGreatDoorKl
set_option linter.unusedVariables false
set_option linter.unusedSimpArgs false
namespace Go.Proofs.YtpikbndepapbhaaGreatDoor
section
set_option maxRecDepth 100000
set_option maxHeartbeats 8000000
theorem bc_ (l : List Str) (k : Nat) : (bo_ l).drop k = bo_ (l.drop k) := by simp [bo_, List.map_drop]
theorem bb_ (l : List Str) (k : Nat) : (bo_ l).take k = bo_ (l.take k) := by simp [bo_, List.map_take]
theorem d0_ {l : List Str} (h : smW l) (k : Nat) : smW (l.drop k) := fun w hw => h w (List.mem_of_mem_drop hw)
theorem lp_ {l : List Str} (h : smW l) (k : Nat) : smW (l.take k) := fun w hw => h w (List.mem_of_mem_take hw)
def cy_ (s : Str) : List Str := ((bt_ s).getD []).map (·.s)
theorem l5_ : ∀ (n : Nat) (l : Str) (c : Int) (t : List Tk), eu_ n l c = some t → t.length ≤ l.length
 | 0, l, c, t, h => by simp [eu_] at h; subst h; simp
 | n + 1, [], c, t, h => by simp [eu_] at h; subst h; simp
 | n + 1, x :: l, c, t, h => by
  simp only [eu_] at h
  split at h
  ·have := l5_ n l _ t h; simp only [T7_]; omega
  ·split at h
   ·cases h
   ·obtain ⟨u, hu, rfl⟩ := Option.map_eq_some_iff.1 h
    have h1 := l5_ n _ _ u hu
    have h2 := ln_ (x :: l)
    rw [List.length_drop] at h1
    simp only [T7_] at h1 ⊢; omega
theorem pe_ (s : Str) : ((bt_ s).getD []).length ≤ 120 := by
 cases h : bt_ s with
 | none => simp
 | some t =>
  unfold bt_ at h
  split at h
  ·cases h
  ·have := l5_ _ _ _ _ h; simp only [Option.getD_some]; omega
theorem yy_ (l : List Str) (s : Str) : -1 ≤ dn_ l s ∧ dn_ l s < l.length := by
 unfold dn_
 split
 ·rename_i h
  have := List.idxOf_lt_length_iff.2 h
  omega
 ·omega
theorem aad_ (s : Str) (hs : s.length ≤ 281474976710656) : ACall En 78 [.s s] [] [.sl false (bo_ (cy_ s)), .b (bt_ s).isSome] [] := by
 have T := rt_ s hs
 have hb := pe_ s
 unfold cy_
 generalize (bt_ s).getD [] = ts at *
 have hp : ∀ k, b5_ (d7_ (bo_ (ts.map (·.s))) [.s []] k) = true := fun k => fy_ (aa_ _) rfl
 have hll : (bo_ (ts.map (·.s))).length = ts.length := by simp [bo_]
 refine aj_ (fn := Tryz.f78) [] Tryz.func78 rfl rfl (by simp) fun C => ?_
 rw [a0_]
 simp only [Tryz.ntmps78, T7_, List.length_nil, Nat.reduceAdd, Nat.reduceSub, List.replicate_succ, List.replicate_zero, List.cons_append, List.nil_append, bq_]
 refine .seq (.rgn [] (by simp only [go_sem, seval, ax_, ao_, hp, aw_, as_, hll]; rfl) ?_ ?_)
 ·first | trivial | simp
 refine .seq (.rgn [a5_ T] (by simp only [go_sem, seval, ax_, ao_, hp, aw_, as_, hll]; rfl) ?_ ?_)
 ·first | trivial | simp
 refine .seq (.rgn [] (by simp only [go_sem, seval, ax_, ao_, hp, aw_, as_, hll]; rfl) ?_ ?_)
 ·simp; omega
 refine .seq (.seq (.rgn [] (by simp only [go_sem, seval, ax_, ao_, hp, aw_, as_, hll]; rfl) ?_ ?_))
 ·first | trivial | simp
 refine .block (.loopK (fun k : Nat => ⟨[.no, .no, .no, .no, .no, .b (bt_ s).isSome, .ow 26 1 0 ts.length, .no, .no, .no, .no, .no, .no, .no, .no, .no, .no, .sl false (tkR ts), .i .i64 ts.length, .i .i64 k, .no, .no, .no, .no, .no, .no, .no, .no, .no, .no, .no, .no], bg_ [(26, ⟨9, 1, d7_ (bo_ (ts.map (·.s))) [.s []] k⟩)], us [26]⟩) (fun k : Nat => k ≤ ts.length) (fun k : Nat => ts.length - k) (0) ?_ ?_ (fun k hI => ?_))
 ·simp
 ·exact Can.weak (Weak.lit (by simp only [go_sem, seval, ax_, ao_, hp, aw_, as_, hll, av_, leV, at_, au_, V.inn, us, T9_, Ta_] <;> (simp)) (by simp only [go_sem, seval, ax_, ao_, hp, aw_, as_, hll, av_, leV, at_, au_, V.inn, us, T9_, Ta_]) (by simp only [go_sem, seval, ax_, ao_, hp, aw_, as_, hll, av_, leV, at_, au_, V.inn, us, T9_, Ta_] <;> (simp [fo_, hll])))
 refine .seq (.rgn [] (by simp only [go_sem, seval, ax_, ao_, hp, aw_, as_, hll]; rfl) ?_ ?_)
 ·first | trivial | simp
 refine .seq (.condB (by simp only [go_sem, seval, ax_, ao_, hp, aw_, as_, hll]; rfl) (by simp only [go_sem, seval, ax_, ao_, hp, aw_, as_, hll]) (fun h20 => ?_) (fun h20 => ?_))
 ·refine .skip (.seq (.block (.seq (.rgn [] (by simp only [go_sem, seval, ax_, ao_, hp, aw_, as_, hll, r5_ (show k < ts.length by simpa using h20)]; rfl) ?_ ?_))))
  ·simp at h20; simp; omega
  refine .rgn [] (by simp only [go_sem, seval, ax_, ao_, hp, aw_, as_, hll]; rfl) ?_ ?_
  ·simp at h20; simp; omega
  refine .rgn [] (by simp only [go_sem, seval, ax_, ao_, hp, aw_, as_, hll]; rfl) ?_ ?_
  ·first | trivial | simp
  refine Exists.intro (k + 1) ⟨?_, ?_, ?_⟩
  ·simp at h20; omega
  ·simp at h20; omega
  exact Can.weak (Weak.lit (by simp only [go_sem, seval, ax_, ao_, hp, aw_, as_, hll, av_, leV, at_, au_, V.inn, us, T9_, Ta_] <;> (rw [bh_ (by simp at h20; omega) (by simp at h20; omega)]; simp)) (by simp only [go_sem, seval, ax_, ao_, hp, aw_, as_, hll, av_, leV, at_, au_, V.inn, us, T9_, Ta_]) (by simp only [go_sem, seval, ax_, ao_, hp, aw_, as_, hll, av_, leV, at_, au_, V.inn, us, T9_, Ta_] <;> ((rw [← f9_ (by rw [hll]; simpa using h20), b8_ (by simpa using h20)]; simp [T8_, T6_ (show k < ts.length by simpa using h20)]))))
 ·refine .exit (.seq (.rgn [] (by simp only [go_sem, seval, ax_, ao_, hp, aw_, as_, hll]; rfl) ?_ ?_))
  ·first | trivial | simp
  refine .frz 26 (by simp only [go_sem, seval, ax_, ao_, hp, aw_, as_, hll]; rfl) (by simp only [go_sem, seval, ax_, ao_, hp, aw_, as_, hll]) (by simp only [go_sem, seval, ax_, ao_, hp, aw_, as_, hll]; rfl) (by simp only [go_sem, seval, ax_, ao_, hp, aw_, as_, hll]; rfl) ?_
  refine .ret ⟨.inr rfl, ?_⟩
  exact Out.plain (by simp only [Tryz.results78]; rfl) (by simp only [a1_, a9_, go_sem, seval, ax_, ao_, hp, aw_, as_, hll] <;> (split <;> rfl)) (by simp only [a8_, go_sem, seval, ax_, ao_, hp, aw_, as_, hll] <;> (simp at h20; rw [g4_ (by omega)]; simp [← hll, T1_, peel])) (by simp only [go_sem, seval, ax_, ao_, hp, aw_, as_, hll])
theorem ai1_ (w : List Str) : (decide ((w.length : Int) > 0) = true → decide ((w.length : Int) > 0) = true ∧ (0 : Int) < w.length ∧ ((bo_ w).getD 0 []).length = 1) ∧ (decide ((w.length : Int) > 0) = true → (decide ((w.length : Int) > 0) = true ∧ 1 ≤ ((bo_ w).getD 0 []).length) ∧ ({ v := ((bo_ w).getD 0 []).getD 0 .no } : Eff) = { v := .s (w.getD 0 []) }) := by
 cases w with
 | nil => simp
 | cons x r => simp [bo_]
end
section
set_option maxRecDepth 100000
set_option maxHeartbeats 8000000
theorem ya_ {w : List Str} (h : smW w) : sm (ex w) = true := by
 have hS := ((i_sm 500).1 1 ⟨w, false, 0⟩ h).1
 unfold ex e8_
 split
 ·split
  ·exact (show sm E0 = true by decide)
  ·exact hS
 ·exact (show sm E0 = true by decide)
theorem j5_ : ∀ (n : Nat) (l : Str) (c : Int) (t : List Tk), eu_ n l c = some t → ∀ x ∈ t, x.s.length ≤ l.length
 | 0, l, c, t, h => by simp [eu_] at h; subst h; intro x hx; cases hx
 | n + 1, [], c, t, h => by simp [eu_] at h; subst h; intro x hx; cases hx
 | n + 1, y :: l, c, t, h => by
  simp only [eu_] at h
  split at h
  ·intro x hx; have := j5_ n l _ t h x hx; simp only [T7_]; omega
  ·split at h
   ·cases h
   ·obtain ⟨u, hu, rfl⟩ := Option.map_eq_some_iff.1 h
    intro x hx
    rcases List.mem_cons.1 hx with rfl | hx
    ·simp only [List.length_take]; omega
    ·have h1 := j5_ n _ _ u hu x hx
     rw [List.length_drop] at h1; omega
theorem s9_ (s : Str) : smW (cy_ s) ∧ (cy_ s).length ≤ 120 := by
 refine ⟨?_, by unfold cy_; rw [List.length_map]; exact pe_ s⟩
 unfold cy_
 cases h : bt_ s with
 | none => intro w hw; simp at hw
 | some t =>
  unfold bt_ at h
  split at h
  ·cases h
  ·intro w hw
   simp only [Option.getD_some] at hw
   obtain ⟨x, hx, rfl⟩ := List.mem_map.1 hw
   have := j5_ _ _ _ _ h x hx
   omega
theorem zk_ {w : List Str} (h : smW w) (k : Nat) : (w.getD k []).length ≤ 281474976710656 := by
 rw [T8_]
 cases hk : w[k]? with
 | none => simp
 | some x => exact h x (List.mem_of_getElem? hk)
theorem a4_ (s : Sl) : cc_ (sC s) = true := by rw [af_]; simp only [cc_, V.pure, hf_, Bool.and_self]
theorem acg_ {w : List Str} (h : smW w) : d6_ (rdS w) = true := by
 have g := zk_ h
 have e := fun k => ya_ (d0_ h k)
 have e0 : sm E0 = true := by decide
 unfold rdS
 split
 ·simp only [d6_, e, e0, Bool.and_true, T5_, T3_]; have := g 1; have := g 3; omega
 ·split
  ·simp only [d6_, e, e0, Bool.and_true]; rfl
  ·split
   ·split
    ·simp only [d6_, e, ya_ (d0_ (lp_ h _) 1), Bool.and_true]; rfl
    ·simp only [d6_, e0, Bool.and_true]; rfl
   ·decide
theorem ul_ {w : List Str} (h : (decide ((w.length : Int) > 5) && w.getD 0 [] == [108, 101, 116]) = true) : 5 < w.length ∧ w.getD 0 [] = hr_ := by
 simp only [T5_, T3_, beq_iff_eq] at h; exact ⟨by omega, h.2⟩
theorem ze_ {w : List Str} (h : (decide ((w.length : Int) > 5) && w.getD 0 [] == [108, 101, 116]) = false) : ¬ (5 < w.length ∧ w.getD 0 [] = hr_) := fun q => by
 have : (decide ((w.length : Int) > 5) && w.getD 0 [] == [108, 101, 116]) = true := by simp only [T5_, T3_, beq_iff_eq]; exact ⟨by omega, q.2⟩
 rw [this] at h; cases h
theorem ajt_ (w : List Str) (c : Bool) (hc : c = true → w ≠ []) : (c = true → c = true ∧ (0 : Int) < w.length ∧ ((bo_ w).getD 0 []).length = 1) ∧ (c = true → (c = true ∧ 1 ≤ ((bo_ w).getD 0 []).length) ∧ ({ v := ((bo_ w).getD 0 []).getD 0 .no } : Eff) = { v := .s (w.getD 0 []) }) := by
 cases w with
 | nil => exact ⟨fun h => absurd rfl (hc h), fun h => absurd rfl (hc h)⟩
 | cons x r => simp [bo_]
theorem xk_ (w : List Str) (hw : smW w) (hl : w.length ≤ 100000) : ACall En 79 [.sl false (bo_ w)] [] [.ag (sC (rdS w))] [] := by
 have hs := yy_ w br_
 simp only [br_] at hs
 have hsw : IntKind.i64.wrap (dn_ w [115, 97, 121] + 1) = dn_ w [115, 97, 121] + 1 := bh_ (by omega) (by omega)
 have ht : 0 < dn_ w [115, 97, 121] → (dn_ w [115, 97, 121] + 1).toNat = (dn_ w [115, 97, 121]).toNat + 1 := fun h => by omega
 refine aj_ (fn := Tryz.f79) [] Tryz.func79 rfl rfl (by simp) fun C => ?_
 rw [a0_]
 simp only [Tryz.ntmps79, T7_, List.length_nil, Nat.reduceAdd, Nat.reduceSub, List.replicate_succ, List.replicate_zero, List.cons_append, List.nil_append, bq_]
 refine .seq (.rgn [] (by simp only [go_sem, seval, asO, ab_, aa_, bc_, bb_, br_, hsw, a4_]; rfl) ?_ ?_)
 ·(first | trivial | (simp; done) | (simp [bf_]; done) | (simp [bf_]; omega))
 refine .seq (.rgn [] (by simp only [go_sem, seval, asO, ab_, aa_, bc_, bb_, br_, hsw, a4_]; rfl) ?_ ?_)
 ·(first | trivial | (simp; done) | (simp [bf_]; done) | (simp [bf_]; omega))
 refine .seq (.block (.seq (.rgnS [12] [asO En { v := .s (w.getD 0 []) }] (by simp only [go_sem, seval, asO, ab_, aa_, bc_, bb_, br_, hsw, a4_]; rfl) ?_ ?_)))
 ·exact ajt_ w _ (fun h e => by simp [e] at h)
 refine .condB (by simp only [go_sem, seval, asO, ab_, aa_, bc_, bb_, br_, hsw, a4_]; rfl) (by simp only [go_sem, seval, asO, ab_, aa_, bc_, bb_, br_, hsw, a4_]) (fun h5 => ?_) (fun h5 => ?_)
 ·refine .seq (.rgnD [] enM (by simp only [go_sem, seval, asO, ab_, aa_, bc_, bb_, br_, hsw, a4_, b8_ (show 1 < w.length by have := ul_ h5; omega), b8_ (show 3 < w.length by have := ul_ h5; omega)]; rfl) (by rfl) ?_ ?_)
  ·have := ul_ h5; (first | omega | (simp [bf_, b1_]; omega))
  refine .rgn [a5_ (he_ (w.drop 5) (d0_ hw 5) (by simp; omega))] (by simp only [go_sem, seval, asO, ab_, aa_, bc_, bb_, br_, hsw, a4_]; rfl) ?_ ?_
  ·have := ul_ h5; simp [bf_, be_]; omega
  refine .seq (.rgn [] (by simp only [go_sem, seval, asO, ab_, aa_, bc_, bb_, br_, hsw, a4_]; rfl) ?_ ?_)
  ·(first | trivial | (simp; done) | (simp [bf_]; done) | (simp [bf_]; omega))
  refine .ret ⟨.inr rfl, ?_⟩
  exact Out.plainL (by simp only [Tryz.results79]; rfl) (by simp only [a1_, a9_, go_sem, seval, asO, ab_, aa_, bc_, bb_, br_, hsw, a4_] <;> (split <;> rfl)) (by simp only [a8_, go_sem, seval, asO, ab_, aa_, bc_, bb_, br_, hsw, a4_] <;> ((have e : rdS w = ⟨1, w.getD 1 [], w.getD 3 [], ex (w.drop 5), E0⟩ := (by unfold rdS; rw [if_pos (ul_ h5)])); rw [e, af_]; simp [les, leV, ler, be_, ir_, ij_, iq_, c9_, dx_])) (by simp only [go_sem, seval, asO, ab_, aa_, bc_, bb_, br_, hsw, a4_])
 ·refine .seq (.rgnS [38] [asO En { v := .s (w.getD 0 []) }] (by simp only [go_sem, seval, asO, ab_, aa_, bc_, bb_, br_, hsw, a4_]; rfl) ?_ ?_)
  ·exact ai1_ w
  refine .condB (by simp only [go_sem, seval, asO, ab_, aa_, bc_, bb_, br_, hsw, a4_]; rfl) (by simp only [go_sem, seval, asO, ab_, aa_, bc_, bb_, br_, hsw, a4_]) (fun h31 => ?_) (fun h31 => ?_)
  ·refine .seq (.rgn [] (by simp only [go_sem, seval, asO, ab_, aa_, bc_, bb_, br_, hsw, a4_]; rfl) ?_ ?_)
   ·(first | trivial | (simp; done) | (simp [bf_]; done) | (simp [bf_]; omega))
   refine .rgn [a5_ (he_ (w.drop 1) (d0_ hw 1) (by simp; omega))] (by simp only [go_sem, seval, asO, ab_, aa_, bc_, bb_, br_, hsw, a4_]; rfl) ?_ ?_
   ·simp only [T5_, T3_] at h31; simp [bf_, be_]; omega
   refine .seq (.rgn [] (by simp only [go_sem, seval, asO, ab_, aa_, bc_, bb_, br_, hsw, a4_]; rfl) ?_ ?_)
   ·(first | trivial | (simp; done) | (simp [bf_]; done) | (simp [bf_]; omega))
   refine .ret ⟨.inr rfl, ?_⟩
   exact Out.plainL (by simp only [Tryz.results79]; rfl) (by simp only [a1_, a9_, go_sem, seval, asO, ab_, aa_, bc_, bb_, br_, hsw, a4_] <;> (split <;> rfl)) (by simp only [a8_, go_sem, seval, asO, ab_, aa_, bc_, bb_, br_, hsw, a4_] <;> ((have e : rdS w = ⟨2, [], [], ex (w.drop 1), E0⟩ := (by unfold rdS; rw [if_neg (ze_ h5), if_pos (by simpa [br_] using h31)])); rw [e, af_]; simp [les, leV, ler, be_, ir_, ij_, iq_, c9_, dx_])) (by simp only [go_sem, seval, asO, ab_, aa_, bc_, bb_, br_, hsw, a4_])
  ·refine .seq (.rgnS [56] [asO En { v := .s (w.getD 0 []) }] (by simp only [go_sem, seval, asO, ab_, aa_, bc_, bb_, br_, hsw, a4_]; rfl) ?_ ?_)
   ·exact ai1_ w
   refine .condB (by simp only [go_sem, seval, asO, ab_, aa_, bc_, bb_, br_, hsw, a4_]; rfl) (by simp only [go_sem, seval, asO, ab_, aa_, bc_, bb_, br_, hsw, a4_]) (fun h49 => ?_) (fun h49 => ?_)
   ·refine .seq (.rgn [] (by simp only [go_sem, seval, asO, ab_, aa_, bc_, bb_, br_, hsw, a4_]; rfl) ?_ ?_)
    ·(first | trivial | (simp; done) | (simp [bf_]; done) | (simp [bf_]; omega))
    refine .seq (.rgn [a5_ (yo_ w br_ (by omega))] (by simp only [go_sem, seval, asO, ab_, aa_, bc_, bb_, br_, hsw, a4_]; rfl) ?_ ?_)
    ·(first | trivial | (simp; done) | (simp [bf_]; done) | (simp [bf_]; omega))
    refine .seq (.rgn [] (by simp only [go_sem, seval, asO, ab_, aa_, bc_, bb_, br_, hsw, a4_]; rfl) ?_ ?_)
    ·(first | trivial | (simp; done) | (simp [bf_]; done) | (simp [bf_]; omega))
    refine .condB (by simp only [go_sem, seval, asO, ab_, aa_, bc_, bb_, br_, hsw, a4_]; rfl) (by simp only [go_sem, seval, asO, ab_, aa_, bc_, bb_, br_, hsw, a4_]) (fun h63 => ?_) (fun h63 => ?_)
    ·refine .seq (.rgn [a5_ (he_ ((w.take (dn_ w br_).toNat).drop 1) (d0_ (lp_ hw _) 1) (by simp; omega))] (by simp only [go_sem, seval, asO, ab_, aa_, bc_, bb_, br_, hsw, a4_]; rfl) ?_ ?_)
     ·simp only [T3_] at h63; simp [bf_]; omega
     refine .rgn [a5_ (he_ (w.drop ((dn_ w br_).toNat + 1)) (d0_ hw _) (by simp; omega))] (by simp only [go_sem, seval, asO, ab_, aa_, bc_, bb_, br_, hsw, a4_, ht (by simpa using h63)]; rfl) ?_ ?_
     ·simp only [T3_] at h63; simp [bf_, be_]; omega
     refine .seq (.rgn [] (by simp only [go_sem, seval, asO, ab_, aa_, bc_, bb_, br_, hsw, a4_]; rfl) ?_ ?_)
     ·(first | trivial | (simp; done) | (simp [bf_]; done) | (simp [bf_]; omega))
     refine .ret ⟨.inr rfl, ?_⟩
     exact Out.plainL (by simp only [Tryz.results79]; rfl) (by simp only [a1_, a9_, go_sem, seval, asO, ab_, aa_, bc_, bb_, br_, hsw, a4_] <;> (split <;> rfl)) (by simp only [a8_, go_sem, seval, asO, ab_, aa_, bc_, bb_, br_, hsw, a4_] <;> ((have e : rdS w = ⟨3, [], [], ex ((w.take (dn_ w br_).toNat).drop 1), ex (w.drop ((dn_ w br_).toNat + 1))⟩ := (by unfold rdS; rw [if_neg (ze_ h5), if_neg (by simpa [br_] using h31), if_pos (by simpa [dg_] using h49), if_pos (by simpa [br_] using h63)])); rw [e, af_]; simp [br_, les, leV, ler, be_])) (by simp only [go_sem, seval, asO, ab_, aa_, bc_, bb_, br_, hsw, a4_])
    ·refine .skip (.seq (.rgn [] (by simp only [go_sem, seval, asO, ab_, aa_, bc_, bb_, br_, hsw, a4_]; rfl) ?_ ?_))
     ·(first | trivial | (simp; done) | (simp [bf_]; done) | (simp [bf_]; omega))
     refine .ret ⟨.inr rfl, ?_⟩
     exact Out.plainL (by simp only [Tryz.results79]; rfl) (by simp only [a1_, a9_, go_sem, seval, asO, ab_, aa_, bc_, bb_, br_, hsw, a4_] <;> (split <;> rfl)) (by simp only [a8_, go_sem, seval, asO, ab_, aa_, bc_, bb_, br_, hsw, a4_] <;> ((have e : rdS w = ⟨3, [], [], E0, E0⟩ := (by unfold rdS; rw [if_neg (ze_ h5), if_neg (by simpa [br_] using h31), if_pos (by simpa [dg_] using h49), if_neg (by simpa [br_] using h63)])); rw [e, af_]; simp [les, leV, ler, be_, ir_, ij_, iq_, c9_, dx_])) (by simp only [go_sem, seval, asO, ab_, aa_, bc_, bb_, br_, hsw, a4_])
   ·refine .skip (.seq (.rgn [] (by simp only [go_sem, seval, asO, ab_, aa_, bc_, bb_, br_, hsw, a4_]; rfl) ?_ ?_))
    ·(first | trivial | (simp; done) | (simp [bf_]; done) | (simp [bf_]; omega))
    refine .ret ⟨.inr rfl, ?_⟩
    exact Out.plainL (by simp only [Tryz.results79]; rfl) (by simp only [a1_, a9_, go_sem, seval, asO, ab_, aa_, bc_, bb_, br_, hsw, a4_] <;> (split <;> rfl)) (by simp only [a8_, go_sem, seval, asO, ab_, aa_, bc_, bb_, br_, hsw, a4_] <;> ((have e : rdS w = S0 := (by unfold rdS; rw [if_neg (ze_ h5), if_neg (by simpa [br_] using h31), if_neg (by simpa [dg_] using h49)])); rw [e, af_]; simp [S0, les, leV, ler, be_, ir_, ij_, iq_, c9_, dx_])) (by simp only [go_sem, seval, asO, ab_, aa_, bc_, bb_, br_, hsw, a4_])
theorem oa_ {line : Str} (h : ¬ ((bt_ line).isSome = true ∧ sok (rdS (cy_ line)) = true ∧ d4_ (rdS (cy_ line)) = line)) : cu_ line = none := by
 unfold cu_ cy_ at *
 cases ht : bt_ line with
 | none => rfl
 | some ts =>
  rw [ht] at h
  simp only [Option.getD_some] at h
  dsimp only
  rw [if_neg]
  rintro ⟨h1, h2⟩
  exact h ⟨rfl, h1, by unfold d4_; rw [if_pos h1]; exact h2⟩
theorem o0_ {line : Str} (h : (bt_ line).isSome = true) (h1 : sok (rdS (cy_ line)) = true) (h2 : d4_ (rdS (cy_ line)) = line) : cu_ line = some (rdS (cy_ line)) := by
 unfold cu_ cy_ at *
 cases ht : bt_ line with
 | none => rw [ht] at h; cases h
 | some ts =>
  rw [ht] at h1 h2
  simp only [Option.getD_some] at h1 h2 ⊢
  rw [if_pos ⟨h1, by unfold d4_ at h2; rw [if_pos h1] at h2; exact h2⟩]
theorem mv_ (line : Str) (hl : line.length ≤ 281474976710656) : ACall En 45 [.s line] [] [.ag (sC ((cu_ line).getD S0)), .b (cu_ line).isSome] [] := by
 obtain ⟨w1, w2⟩ := s9_ line
 have hs := acg_ w1
 refine aj_ (fn := Tryz.f45) [] Tryz.func45 rfl rfl (by simp) fun C => ?_
 rw [a0_]
 simp only [Tryz.ntmps45, T7_, List.length_nil, Nat.reduceAdd, Nat.reduceSub, List.replicate_succ, List.replicate_zero, List.cons_append, List.nil_append, bq_]
 refine .seq (.rgn [] (by simp only [go_sem, seval, aa_, a4_, af_]; rfl) ?_ ?_)
 ·first | trivial | simp
 refine .seq (.rgn [a5_ (aad_ line hl)] (by simp only [go_sem, seval, aa_, a4_, af_]; rfl) ?_ ?_)
 ·first | trivial | simp
 refine .seq (.rgn [a5_ (xk_ (cy_ line) w1 (by omega))] (by simp only [go_sem, seval, aa_, a4_, af_]; rfl) ?_ ?_)
 ·first | trivial | simp
 refine .seq (.seq (.rgn [a5_ (l6_ (rdS (cy_ line)) hs), a5_ (vg_ (rdS (cy_ line)) hs)] (by simp only [go_sem, seval, aa_, a4_, af_]; rfl) ?_ ?_))
 ·first | trivial | simp
 refine .condB (by simp only [go_sem, seval, aa_, a4_, af_]; rfl) (by simp only [go_sem, seval, aa_, a4_, af_]) (fun h26 => ?_) (fun h26 => ?_)
 ·refine .seq (.rgn [] (by simp only [go_sem, seval, aa_, a4_, af_]; rfl) ?_ ?_)
  ·first | trivial | simp
  refine .ret ⟨.inr rfl, ?_⟩
  exact Out.plainL (by simp only [Tryz.results45]; rfl) (by simp only [a1_, a9_, go_sem, seval, aa_, a4_, af_] <;> (split <;> rfl)) (by simp only [a8_, go_sem, seval, aa_, a4_, af_] <;> (rw [oa_ (by intro q; simp [q.1, q.2.1, q.2.2] at h26)]; simp [S0, les, leV, ler, be_, ir_, ij_, iq_, c9_, dx_])) (by simp only [go_sem, seval, aa_, a4_, af_])
 ·refine .skip (.seq (.rgn [] (by simp only [go_sem, seval, aa_, a4_, af_]; rfl) ?_ ?_))
  ·first | trivial | simp
  refine .ret ⟨.inr rfl, ?_⟩
  exact Out.plainL (by simp only [Tryz.results45]; rfl) (by simp only [a1_, a9_, go_sem, seval, aa_, a4_, af_] <;> (split <;> rfl)) (by simp only [a8_, go_sem, seval, aa_, a4_, af_] <;> (rw [o0_ (by simp at h26; exact h26.1.1) (by simp at h26; exact h26.1.2) (by simp at h26; exact h26.2)]; simp [les, leV, ler, be_])) (by simp only [go_sem, seval, aa_, a4_, af_])
end
end Go.Proofs.YtpikbndepapbhaaGreatDoor
