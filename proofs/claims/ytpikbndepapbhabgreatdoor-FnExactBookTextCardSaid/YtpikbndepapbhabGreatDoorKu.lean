/- Lines are read: the program's. Conditions: none. -/
import Derived.Test.YtpikbndepapbhabGreatDoorKt
import Derived.Test.YtpikbndepapbhabGreatDoorKn
import Derived.Test.YtpikbndepapbhabGreatDoorKl
set_option linter.unusedVariables false
set_option linter.unusedSimpArgs false
namespace Go.Proofs.YtpikbndepapbhabGreatDoor
section
set_option maxRecDepth 100000
set_option maxHeartbeats 8000000
theorem a9_ (l : List Str) (k : Nat) : (bl_ l).drop k = bl_ (l.drop k) := by simp [bl_, List.map_drop]
theorem a8_ (l : List Str) (k : Nat) : (bl_ l).take k = bl_ (l.take k) := by simp [bl_, List.map_take]
theorem dz_ {l : List Str} (h : smW l) (k : Nat) : smW (l.drop k) := fun w hw => h w (List.mem_of_mem_drop hw)
theorem ki_ {l : List Str} (h : smW l) (k : Nat) : smW (l.take k) := fun w hw => h w (List.mem_of_mem_take hw)
def cw_ (s : Str) : List Str := ((b4_ s).getD []).map (·.s)
theorem lv_ : ∀ (n : Nat) (l : Str) (c : Int) (t : List Tk), em_ n l c = some t → t.length ≤ l.length
 | 0, l, c, t, h => by simp [em_] at h; subst h; simp
 | n + 1, [], c, t, h => by simp [em_] at h; subst h; simp
 | n + 1, x :: l, c, t, h => by
  simp only [em_] at h
  split at h
  ·have := lv_ n l _ t h; simp only [T7_]; omega
  ·split at h
   ·cases h
   ·obtain ⟨u, hu, rfl⟩ := Option.map_eq_some_iff.1 h
    have h1 := lv_ n _ _ u hu
    have h2 := kw_ (x :: l)
    rw [List.length_drop] at h1
    simp only [T7_] at h1 ⊢; omega
theorem pa_ (s : Str) : ((b4_ s).getD []).length ≤ 120 := by
 cases h : b4_ s with
 | none => simp
 | some t =>
  unfold b4_ at h
  split at h
  ·cases h
  ·have := lv_ _ _ _ _ h; simp only [Option.getD_some]; omega
theorem xm_ (l : List Str) (s : Str) : -1 ≤ dk_ l s ∧ dk_ l s < l.length := by
 unfold dk_
 split
 ·rename_i h
  have := List.idxOf_lt_length_iff.2 h
  omega
 ·omega
theorem zi_ (s : Str) (hs : s.length ≤ 281474976710656) : ACall En 68 [.s s] [] [.sl false (bl_ (cw_ s)), .b (b4_ s).isSome] [] := by
 have T := aal_ s hs
 have hb := pa_ s
 unfold cw_
 generalize (b4_ s).getD [] = ts at *
 have hp : ∀ k, b3_ (ds_ (bl_ (ts.map (·.s))) [.s []] k) = true := fun k => fn_ (aa_ _) rfl
 have hll : (bl_ (ts.map (·.s))).length = ts.length := by simp [bl_]
 refine ak_ (fn := Tryz.f68) [] Tryz.func68 rfl rfl (by simp) fun C => ?_
 rw [aw_]
 simp only [Tryz.ntmps68, T7_, List.length_nil, Nat.reduceAdd, Nat.reduceSub, List.replicate_succ, List.replicate_zero, List.cons_append, List.nil_append, bk_]
 refine .seq (.rgn [] (by simp only [go_sem, seval, ay_, au_, hp, a0_, at_, hll]; rfl) ?_ ?_)
 ·first | trivial | simp
 refine .seq (.rgn [a3_ T] (by simp only [go_sem, seval, ay_, au_, hp, a0_, at_, hll]; rfl) ?_ ?_)
 ·first | trivial | simp
 refine .seq (.rgn [] (by simp only [go_sem, seval, ay_, au_, hp, a0_, at_, hll]; rfl) ?_ ?_)
 ·simp; omega
 refine .seq (.seq (.rgn [] (by simp only [go_sem, seval, ay_, au_, hp, a0_, at_, hll]; rfl) ?_ ?_))
 ·first | trivial | simp
 refine .block (.loopK (fun k : Nat => ⟨[.no, .no, .no, .no, .no, .b (b4_ s).isSome, .ow 26 1 0 ts.length, .no, .no, .no, .no, .no, .no, .no, .no, .no, .no, .sl false (tkR ts), .i .i64 ts.length, .i .i64 k, .no, .no, .no, .no, .no, .no, .no, .no, .no, .no, .no, .no], be_ [(26, ⟨9, 1, ds_ (bl_ (ts.map (·.s))) [.s []] k⟩)], us [26]⟩) (fun k : Nat => k ≤ ts.length) (fun k : Nat => ts.length - k) (0) ?_ ?_ (fun k hI => ?_))
 ·simp
 ·exact Can.weak (Weak.lit (by simp only [go_sem, seval, ay_, au_, hp, a0_, at_, hll, as_, leV, aq_, ar_, V.inn, us, T9_, Ta_] <;> (simp)) (by simp only [go_sem, seval, ay_, au_, hp, a0_, at_, hll, as_, leV, aq_, ar_, V.inn, us, T9_, Ta_]) (by simp only [go_sem, seval, ay_, au_, hp, a0_, at_, hll, as_, leV, aq_, ar_, V.inn, us, T9_, Ta_] <;> (simp [fp_, hll])))
 refine .seq (.rgn [] (by simp only [go_sem, seval, ay_, au_, hp, a0_, at_, hll]; rfl) ?_ ?_)
 ·first | trivial | simp
 refine .seq (.condB (by simp only [go_sem, seval, ay_, au_, hp, a0_, at_, hll]; rfl) (by simp only [go_sem, seval, ay_, au_, hp, a0_, at_, hll]) (fun h20 => ?_) (fun h20 => ?_))
 ·refine .skip (.seq (.block (.seq (.rgn [] (by simp only [go_sem, seval, ay_, au_, hp, a0_, at_, hll, x9_ (show k < ts.length by simpa using h20)]; rfl) ?_ ?_))))
  ·simp at h20; simp; omega
  refine .rgn [] (by simp only [go_sem, seval, ay_, au_, hp, a0_, at_, hll]; rfl) ?_ ?_
  ·simp at h20; simp; omega
  refine .rgn [] (by simp only [go_sem, seval, ay_, au_, hp, a0_, at_, hll]; rfl) ?_ ?_
  ·first | trivial | simp
  refine Exists.intro (k + 1) ⟨?_, ?_, ?_⟩
  ·simp at h20; omega
  ·simp at h20; omega
  exact Can.weak (Weak.lit (by simp only [go_sem, seval, ay_, au_, hp, a0_, at_, hll, as_, leV, aq_, ar_, V.inn, us, T9_, Ta_] <;> (rw [bg_ (by simp at h20; omega) (by simp at h20; omega)]; simp)) (by simp only [go_sem, seval, ay_, au_, hp, a0_, at_, hll, as_, leV, aq_, ar_, V.inn, us, T9_, Ta_]) (by simp only [go_sem, seval, ay_, au_, hp, a0_, at_, hll, as_, leV, aq_, ar_, V.inn, us, T9_, Ta_] <;> ((rw [← f4_ (by rw [hll]; simpa using h20), cc_ (by simpa using h20)]; simp [T8_, T6_ (show k < ts.length by simpa using h20)]))))
 ·refine .exit (.seq (.rgn [] (by simp only [go_sem, seval, ay_, au_, hp, a0_, at_, hll]; rfl) ?_ ?_))
  ·first | trivial | simp
  refine .frz 26 (by simp only [go_sem, seval, ay_, au_, hp, a0_, at_, hll]; rfl) (by simp only [go_sem, seval, ay_, au_, hp, a0_, at_, hll]) (by simp only [go_sem, seval, ay_, au_, hp, a0_, at_, hll]; rfl) (by simp only [go_sem, seval, ay_, au_, hp, a0_, at_, hll]; rfl) ?_
  refine .ret ⟨.inr rfl, ?_⟩
  exact Out.plain (by simp only [Tryz.results68]; rfl) (by simp only [av_, a5_, go_sem, seval, ay_, au_, hp, a0_, at_, hll] <;> (split <;> rfl)) (by simp only [a2_, go_sem, seval, ay_, au_, hp, a0_, at_, hll] <;> (simp at h20; rw [gu_ (by omega)]; simp [← hll, T1_, peel])) (by simp only [go_sem, seval, ay_, au_, hp, a0_, at_, hll])
theorem aim_ (w : List Str) : (decide ((w.length : Int) > 0) = true → decide ((w.length : Int) > 0) = true ∧ (0 : Int) < w.length ∧ ((bl_ w).getD 0 []).length = 1) ∧ (decide ((w.length : Int) > 0) = true → (decide ((w.length : Int) > 0) = true ∧ 1 ≤ ((bl_ w).getD 0 []).length) ∧ ({ v := ((bl_ w).getD 0 []).getD 0 .no } : Eff) = { v := .s (w.getD 0 []) }) := by
 cases w with
 | nil => simp
 | cons x r => simp [bl_]
end
section
set_option maxRecDepth 100000
set_option maxHeartbeats 8000000
theorem xv_ {w : List Str} (h : smW w) : sm (ex w) = true := by
 have hS := ((i_sm 500).1 1 ⟨w, false, 0⟩ h).1
 unfold ex ew_
 split
 ·split
  ·exact (show sm E0 = true by decide)
  ·exact hS
 ·exact (show sm E0 = true by decide)
theorem j5_ : ∀ (n : Nat) (l : Str) (c : Int) (t : List Tk), em_ n l c = some t → ∀ x ∈ t, x.s.length ≤ l.length
 | 0, l, c, t, h => by simp [em_] at h; subst h; intro x hx; cases hx
 | n + 1, [], c, t, h => by simp [em_] at h; subst h; intro x hx; cases hx
 | n + 1, y :: l, c, t, h => by
  simp only [em_] at h
  split at h
  ·intro x hx; have := j5_ n l _ t h x hx; simp only [T7_]; omega
  ·split at h
   ·cases h
   ·obtain ⟨u, hu, rfl⟩ := Option.map_eq_some_iff.1 h
    intro x hx
    rcases List.mem_cons.1 hx with rfl | hx
    ·simp only [List.length_take]; omega
    ·have h1 := j5_ n _ _ u hu x hx
     rw [List.length_drop] at h1; omega
theorem r7_ (s : Str) : smW (cw_ s) ∧ (cw_ s).length ≤ 120 := by
 refine ⟨?_, by unfold cw_; rw [List.length_map]; exact pa_ s⟩
 unfold cw_
 cases h : b4_ s with
 | none => intro w hw; simp at hw
 | some t =>
  unfold b4_ at h
  split at h
  ·cases h
  ·intro w hw
   simp only [Option.getD_some] at hw
   obtain ⟨x, hx, rfl⟩ := List.mem_map.1 hw
   have := j5_ _ _ _ _ h x hx
   omega
theorem xx_ {w : List Str} (h : smW w) (k : Nat) : (w.getD k []).length ≤ 281474976710656 := by
 rw [T8_]
 cases hk : w[k]? with
 | none => simp
 | some x => exact h x (List.mem_of_getElem? hk)
theorem a1_ (s : Sl) : cd_ (sC s) = true := by rw [ai_]; simp only [cd_, V.pure, ig_, Bool.and_self]
theorem afk_ {w : List Str} (h : smW w) : d0_ (rdS w) = true := by
 have g := xx_ h
 have e := fun k => xv_ (dz_ h k)
 have e0 : sm E0 = true := by decide
 unfold rdS
 split
 ·simp only [d0_, e, e0, Bool.and_true, T5_, T3_]; have := g 1; have := g 3; omega
 ·split
  ·simp only [d0_, e, e0, Bool.and_true]; rfl
  ·split
   ·split
    ·simp only [d0_, e, xv_ (dz_ (ki_ h _) 1), Bool.and_true]; rfl
    ·simp only [d0_, e0, Bool.and_true]; rfl
   ·decide
theorem ur_ {w : List Str} (h : (decide ((w.length : Int) > 5) && w.getD 0 [] == [108, 101, 116]) = true) : 5 < w.length ∧ w.getD 0 [] = hh_ := by
 simp only [T5_, T3_, beq_iff_eq] at h; exact ⟨by omega, h.2⟩
theorem y4_ {w : List Str} (h : (decide ((w.length : Int) > 5) && w.getD 0 [] == [108, 101, 116]) = false) : ¬ (5 < w.length ∧ w.getD 0 [] = hh_) := fun q => by
 have : (decide ((w.length : Int) > 5) && w.getD 0 [] == [108, 101, 116]) = true := by simp only [T5_, T3_, beq_iff_eq]; exact ⟨by omega, q.2⟩
 rw [this] at h; cases h
theorem ai5_ (w : List Str) (c : Bool) (hc : c = true → w ≠ []) : (c = true → c = true ∧ (0 : Int) < w.length ∧ ((bl_ w).getD 0 []).length = 1) ∧ (c = true → (c = true ∧ 1 ≤ ((bl_ w).getD 0 []).length) ∧ ({ v := ((bl_ w).getD 0 []).getD 0 .no } : Eff) = { v := .s (w.getD 0 []) }) := by
 cases w with
 | nil => exact ⟨fun h => absurd rfl (hc h), fun h => absurd rfl (hc h)⟩
 | cons x r => simp [bl_]
theorem wr_ (w : List Str) (hw : smW w) (hl : w.length ≤ 100000) : ACall En 91 [.sl false (bl_ w)] [] [.ag (sC (rdS w))] [] := by
 have hs := xm_ w bm_
 simp only [bm_] at hs
 have hsw : IntKind.i64.wrap (dk_ w [115, 97, 121] + 1) = dk_ w [115, 97, 121] + 1 := bg_ (by omega) (by omega)
 have ht : 0 < dk_ w [115, 97, 121] → (dk_ w [115, 97, 121] + 1).toNat = (dk_ w [115, 97, 121]).toNat + 1 := fun h => by omega
 refine ak_ (fn := Tryz.f91) [] Tryz.func91 rfl rfl (by simp) fun C => ?_
 rw [aw_]
 simp only [Tryz.ntmps91, T7_, List.length_nil, Nat.reduceAdd, Nat.reduceSub, List.replicate_succ, List.replicate_zero, List.cons_append, List.nil_append, bk_]
 refine .seq (.rgn [] (by simp only [go_sem, seval, asO, ac_, aa_, a9_, a8_, bm_, hsw, a1_]; rfl) ?_ ?_)
 ·(first | trivial | (simp; done) | (simp [bf_]; done) | (simp [bf_]; omega))
 refine .seq (.rgn [] (by simp only [go_sem, seval, asO, ac_, aa_, a9_, a8_, bm_, hsw, a1_]; rfl) ?_ ?_)
 ·(first | trivial | (simp; done) | (simp [bf_]; done) | (simp [bf_]; omega))
 refine .seq (.block (.seq (.rgnS [12] [asO En { v := .s (w.getD 0 []) }] (by simp only [go_sem, seval, asO, ac_, aa_, a9_, a8_, bm_, hsw, a1_]; rfl) ?_ ?_)))
 ·exact ai5_ w _ (fun h e => by simp [e] at h)
 refine .condB (by simp only [go_sem, seval, asO, ac_, aa_, a9_, a8_, bm_, hsw, a1_]; rfl) (by simp only [go_sem, seval, asO, ac_, aa_, a9_, a8_, bm_, hsw, a1_]) (fun h5 => ?_) (fun h5 => ?_)
 ·refine .seq (.rgnD [] enM (by simp only [go_sem, seval, asO, ac_, aa_, a9_, a8_, bm_, hsw, a1_, cc_ (show 1 < w.length by have := ur_ h5; omega), cc_ (show 3 < w.length by have := ur_ h5; omega)]; rfl) (by rfl) ?_ ?_)
  ·have := ur_ h5; (first | omega | (simp [bf_, b0_]; omega))
  refine .rgn [a3_ (he_ (w.drop 5) (dz_ hw 5) (by simp; omega))] (by simp only [go_sem, seval, asO, ac_, aa_, a9_, a8_, bm_, hsw, a1_]; rfl) ?_ ?_
  ·have := ur_ h5; simp [bf_, bd_]; omega
  refine .seq (.rgn [] (by simp only [go_sem, seval, asO, ac_, aa_, a9_, a8_, bm_, hsw, a1_]; rfl) ?_ ?_)
  ·(first | trivial | (simp; done) | (simp [bf_]; done) | (simp [bf_]; omega))
  refine .ret ⟨.inr rfl, ?_⟩
  exact Out.plainL (by simp only [Tryz.results91]; rfl) (by simp only [av_, a5_, go_sem, seval, asO, ac_, aa_, a9_, a8_, bm_, hsw, a1_] <;> (split <;> rfl)) (by simp only [a2_, go_sem, seval, asO, ac_, aa_, a9_, a8_, bm_, hsw, a1_] <;> ((have e : rdS w = ⟨1, w.getD 1 [], w.getD 3 [], ex (w.drop 5), E0⟩ := (by unfold rdS; rw [if_pos (ur_ h5)])); rw [e, ai_]; simp [les, leV, ler, bd_, h0_, hn_, ht_, c5_, dl_])) (by simp only [go_sem, seval, asO, ac_, aa_, a9_, a8_, bm_, hsw, a1_])
 ·refine .seq (.rgnS [38] [asO En { v := .s (w.getD 0 []) }] (by simp only [go_sem, seval, asO, ac_, aa_, a9_, a8_, bm_, hsw, a1_]; rfl) ?_ ?_)
  ·exact aim_ w
  refine .condB (by simp only [go_sem, seval, asO, ac_, aa_, a9_, a8_, bm_, hsw, a1_]; rfl) (by simp only [go_sem, seval, asO, ac_, aa_, a9_, a8_, bm_, hsw, a1_]) (fun h31 => ?_) (fun h31 => ?_)
  ·refine .seq (.rgn [] (by simp only [go_sem, seval, asO, ac_, aa_, a9_, a8_, bm_, hsw, a1_]; rfl) ?_ ?_)
   ·(first | trivial | (simp; done) | (simp [bf_]; done) | (simp [bf_]; omega))
   refine .rgn [a3_ (he_ (w.drop 1) (dz_ hw 1) (by simp; omega))] (by simp only [go_sem, seval, asO, ac_, aa_, a9_, a8_, bm_, hsw, a1_]; rfl) ?_ ?_
   ·simp only [T5_, T3_] at h31; simp [bf_, bd_]; omega
   refine .seq (.rgn [] (by simp only [go_sem, seval, asO, ac_, aa_, a9_, a8_, bm_, hsw, a1_]; rfl) ?_ ?_)
   ·(first | trivial | (simp; done) | (simp [bf_]; done) | (simp [bf_]; omega))
   refine .ret ⟨.inr rfl, ?_⟩
   exact Out.plainL (by simp only [Tryz.results91]; rfl) (by simp only [av_, a5_, go_sem, seval, asO, ac_, aa_, a9_, a8_, bm_, hsw, a1_] <;> (split <;> rfl)) (by simp only [a2_, go_sem, seval, asO, ac_, aa_, a9_, a8_, bm_, hsw, a1_] <;> ((have e : rdS w = ⟨2, [], [], ex (w.drop 1), E0⟩ := (by unfold rdS; rw [if_neg (y4_ h5), if_pos (by simpa [bm_] using h31)])); rw [e, ai_]; simp [les, leV, ler, bd_, h0_, hn_, ht_, c5_, dl_])) (by simp only [go_sem, seval, asO, ac_, aa_, a9_, a8_, bm_, hsw, a1_])
  ·refine .seq (.rgnS [56] [asO En { v := .s (w.getD 0 []) }] (by simp only [go_sem, seval, asO, ac_, aa_, a9_, a8_, bm_, hsw, a1_]; rfl) ?_ ?_)
   ·exact aim_ w
   refine .condB (by simp only [go_sem, seval, asO, ac_, aa_, a9_, a8_, bm_, hsw, a1_]; rfl) (by simp only [go_sem, seval, asO, ac_, aa_, a9_, a8_, bm_, hsw, a1_]) (fun h49 => ?_) (fun h49 => ?_)
   ·refine .seq (.rgn [] (by simp only [go_sem, seval, asO, ac_, aa_, a9_, a8_, bm_, hsw, a1_]; rfl) ?_ ?_)
    ·(first | trivial | (simp; done) | (simp [bf_]; done) | (simp [bf_]; omega))
    refine .seq (.rgn [a3_ (xt_ w bm_ (by omega))] (by simp only [go_sem, seval, asO, ac_, aa_, a9_, a8_, bm_, hsw, a1_]; rfl) ?_ ?_)
    ·(first | trivial | (simp; done) | (simp [bf_]; done) | (simp [bf_]; omega))
    refine .seq (.rgn [] (by simp only [go_sem, seval, asO, ac_, aa_, a9_, a8_, bm_, hsw, a1_]; rfl) ?_ ?_)
    ·(first | trivial | (simp; done) | (simp [bf_]; done) | (simp [bf_]; omega))
    refine .condB (by simp only [go_sem, seval, asO, ac_, aa_, a9_, a8_, bm_, hsw, a1_]; rfl) (by simp only [go_sem, seval, asO, ac_, aa_, a9_, a8_, bm_, hsw, a1_]) (fun h63 => ?_) (fun h63 => ?_)
    ·refine .seq (.rgn [a3_ (he_ ((w.take (dk_ w bm_).toNat).drop 1) (dz_ (ki_ hw _) 1) (by simp; omega))] (by simp only [go_sem, seval, asO, ac_, aa_, a9_, a8_, bm_, hsw, a1_]; rfl) ?_ ?_)
     ·simp only [T3_] at h63; simp [bf_]; omega
     refine .rgn [a3_ (he_ (w.drop ((dk_ w bm_).toNat + 1)) (dz_ hw _) (by simp; omega))] (by simp only [go_sem, seval, asO, ac_, aa_, a9_, a8_, bm_, hsw, a1_, ht (by simpa using h63)]; rfl) ?_ ?_
     ·simp only [T3_] at h63; simp [bf_, bd_]; omega
     refine .seq (.rgn [] (by simp only [go_sem, seval, asO, ac_, aa_, a9_, a8_, bm_, hsw, a1_]; rfl) ?_ ?_)
     ·(first | trivial | (simp; done) | (simp [bf_]; done) | (simp [bf_]; omega))
     refine .ret ⟨.inr rfl, ?_⟩
     exact Out.plainL (by simp only [Tryz.results91]; rfl) (by simp only [av_, a5_, go_sem, seval, asO, ac_, aa_, a9_, a8_, bm_, hsw, a1_] <;> (split <;> rfl)) (by simp only [a2_, go_sem, seval, asO, ac_, aa_, a9_, a8_, bm_, hsw, a1_] <;> ((have e : rdS w = ⟨3, [], [], ex ((w.take (dk_ w bm_).toNat).drop 1), ex (w.drop ((dk_ w bm_).toNat + 1))⟩ := (by unfold rdS; rw [if_neg (y4_ h5), if_neg (by simpa [bm_] using h31), if_pos (by simpa [dd_] using h49), if_pos (by simpa [bm_] using h63)])); rw [e, ai_]; simp [bm_, les, leV, ler, bd_])) (by simp only [go_sem, seval, asO, ac_, aa_, a9_, a8_, bm_, hsw, a1_])
    ·refine .skip (.seq (.rgn [] (by simp only [go_sem, seval, asO, ac_, aa_, a9_, a8_, bm_, hsw, a1_]; rfl) ?_ ?_))
     ·(first | trivial | (simp; done) | (simp [bf_]; done) | (simp [bf_]; omega))
     refine .ret ⟨.inr rfl, ?_⟩
     exact Out.plainL (by simp only [Tryz.results91]; rfl) (by simp only [av_, a5_, go_sem, seval, asO, ac_, aa_, a9_, a8_, bm_, hsw, a1_] <;> (split <;> rfl)) (by simp only [a2_, go_sem, seval, asO, ac_, aa_, a9_, a8_, bm_, hsw, a1_] <;> ((have e : rdS w = ⟨3, [], [], E0, E0⟩ := (by unfold rdS; rw [if_neg (y4_ h5), if_neg (by simpa [bm_] using h31), if_pos (by simpa [dd_] using h49), if_neg (by simpa [bm_] using h63)])); rw [e, ai_]; simp [les, leV, ler, bd_, h0_, hn_, ht_, c5_, dl_])) (by simp only [go_sem, seval, asO, ac_, aa_, a9_, a8_, bm_, hsw, a1_])
   ·refine .skip (.seq (.rgn [] (by simp only [go_sem, seval, asO, ac_, aa_, a9_, a8_, bm_, hsw, a1_]; rfl) ?_ ?_))
    ·(first | trivial | (simp; done) | (simp [bf_]; done) | (simp [bf_]; omega))
    refine .ret ⟨.inr rfl, ?_⟩
    exact Out.plainL (by simp only [Tryz.results91]; rfl) (by simp only [av_, a5_, go_sem, seval, asO, ac_, aa_, a9_, a8_, bm_, hsw, a1_] <;> (split <;> rfl)) (by simp only [a2_, go_sem, seval, asO, ac_, aa_, a9_, a8_, bm_, hsw, a1_] <;> ((have e : rdS w = S0 := (by unfold rdS; rw [if_neg (y4_ h5), if_neg (by simpa [bm_] using h31), if_neg (by simpa [dd_] using h49)])); rw [e, ai_]; simp [S0, les, leV, ler, bd_, h0_, hn_, ht_, c5_, dl_])) (by simp only [go_sem, seval, asO, ac_, aa_, a9_, a8_, bm_, hsw, a1_])
theorem p0_ {line : Str} (h : ¬ ((b4_ line).isSome = true ∧ sok (rdS (cw_ line)) = true ∧ d2_ (rdS (cw_ line)) = line)) : ck_ line = none := by
 unfold ck_ cw_ at *
 cases ht : b4_ line with
 | none => rfl
 | some ts =>
  rw [ht] at h
  simp only [Option.getD_some] at h
  dsimp only
  rw [if_neg]
  rintro ⟨h1, h2⟩
  exact h ⟨rfl, h1, by unfold d2_; rw [if_pos h1]; exact h2⟩
theorem ot_ {line : Str} (h : (b4_ line).isSome = true) (h1 : sok (rdS (cw_ line)) = true) (h2 : d2_ (rdS (cw_ line)) = line) : ck_ line = some (rdS (cw_ line)) := by
 unfold ck_ cw_ at *
 cases ht : b4_ line with
 | none => rw [ht] at h; cases h
 | some ts =>
  rw [ht] at h1 h2
  simp only [Option.getD_some] at h1 h2 ⊢
  rw [if_pos ⟨h1, by unfold d2_ at h2; rw [if_pos h1] at h2; exact h2⟩]
theorem is_ (line : Str) (hl : line.length ≤ 281474976710656) : ACall En 39 [.s line] [] [.ag (sC ((ck_ line).getD S0)), .b (ck_ line).isSome] [] := by
 obtain ⟨w1, w2⟩ := r7_ line
 have hs := afk_ w1
 refine ak_ (fn := Tryz.f39) [] Tryz.func39 rfl rfl (by simp) fun C => ?_
 rw [aw_]
 simp only [Tryz.ntmps39, T7_, List.length_nil, Nat.reduceAdd, Nat.reduceSub, List.replicate_succ, List.replicate_zero, List.cons_append, List.nil_append, bk_]
 refine .seq (.rgn [] (by simp only [go_sem, seval, aa_, a1_, ai_]; rfl) ?_ ?_)
 ·first | trivial | simp
 refine .seq (.rgn [a3_ (zi_ line hl)] (by simp only [go_sem, seval, aa_, a1_, ai_]; rfl) ?_ ?_)
 ·first | trivial | simp
 refine .seq (.rgn [a3_ (wr_ (cw_ line) w1 (by omega))] (by simp only [go_sem, seval, aa_, a1_, ai_]; rfl) ?_ ?_)
 ·first | trivial | simp
 refine .seq (.seq (.rgn [a3_ (ji_ (rdS (cw_ line)) hs), a3_ (th_ (rdS (cw_ line)) hs)] (by simp only [go_sem, seval, aa_, a1_, ai_]; rfl) ?_ ?_))
 ·first | trivial | simp
 refine .condB (by simp only [go_sem, seval, aa_, a1_, ai_]; rfl) (by simp only [go_sem, seval, aa_, a1_, ai_]) (fun h26 => ?_) (fun h26 => ?_)
 ·refine .seq (.rgn [] (by simp only [go_sem, seval, aa_, a1_, ai_]; rfl) ?_ ?_)
  ·first | trivial | simp
  refine .ret ⟨.inr rfl, ?_⟩
  exact Out.plainL (by simp only [Tryz.results39]; rfl) (by simp only [av_, a5_, go_sem, seval, aa_, a1_, ai_] <;> (split <;> rfl)) (by simp only [a2_, go_sem, seval, aa_, a1_, ai_] <;> (rw [p0_ (by intro q; simp [q.1, q.2.1, q.2.2] at h26)]; simp [S0, les, leV, ler, bd_, h0_, hn_, ht_, c5_, dl_])) (by simp only [go_sem, seval, aa_, a1_, ai_])
 ·refine .skip (.seq (.rgn [] (by simp only [go_sem, seval, aa_, a1_, ai_]; rfl) ?_ ?_))
  ·first | trivial | simp
  refine .ret ⟨.inr rfl, ?_⟩
  exact Out.plainL (by simp only [Tryz.results39]; rfl) (by simp only [av_, a5_, go_sem, seval, aa_, a1_, ai_] <;> (split <;> rfl)) (by simp only [a2_, go_sem, seval, aa_, a1_, ai_] <;> (rw [ot_ (by simp at h26; exact h26.1.1) (by simp at h26; exact h26.1.2) (by simp at h26; exact h26.2)]; simp [les, leV, ler, bd_])) (by simp only [go_sem, seval, aa_, a1_, ai_])
end
end Go.Proofs.YtpikbndepapbhabGreatDoor
