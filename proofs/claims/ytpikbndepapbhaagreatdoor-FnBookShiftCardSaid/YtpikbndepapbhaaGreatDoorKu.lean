/- Lines are read: the program's. Conditions: none. -/
import Derived.Test.YtpikbndepapbhaaGreatDoorKt
import Derived.Test.YtpikbndepapbhaaGreatDoorKn
import Derived.Test.YtpikbndepapbhaaGreatDoorKl
set_option linter.unusedVariables false
set_option linter.unusedSimpArgs false
namespace Go.Proofs.YtpikbndepapbhaaGreatDoor
section
set_option maxRecDepth 100000
set_option maxHeartbeats 8000000
theorem ba_ (l : List Str) (k : Nat) : (bp_ l).drop k = bp_ (l.drop k) := by simp [bp_, List.map_drop]
theorem bb_ (l : List Str) (k : Nat) : (bp_ l).take k = bp_ (l.take k) := by simp [bp_, List.map_take]
theorem ed_ {l : List Str} (h : smW l) (k : Nat) : smW (l.drop k) := fun w hw => h w (List.mem_of_mem_drop hw)
theorem lo_ {l : List Str} (h : smW l) (k : Nat) : smW (l.take k) := fun w hw => h w (List.mem_of_mem_take hw)
def da_ (s : Str) : List Str := ((bv_ s).getD []).map (·.s)
theorem mp_ : ∀ (n : Nat) (l : Str) (c : Int) (t : List Tk), e5_ n l c = some t → t.length ≤ l.length
 | 0, l, c, t, h => by simp [e5_] at h; subst h; simp
 | n + 1, [], c, t, h => by simp [e5_] at h; subst h; simp
 | n + 1, x :: l, c, t, h => by
  simp only [e5_] at h
  split at h
  ·have := mp_ n l _ t h; simp only [T7_]; omega
  ·split at h
   ·cases h
   ·obtain ⟨u, hu, rfl⟩ := Option.map_eq_some_iff.1 h
    have h1 := mp_ n _ _ u hu
    have h2 := k7_ (x :: l)
    rw [List.length_drop] at h1
    simp only [T7_] at h1 ⊢; omega
theorem qj_ (s : Str) : ((bv_ s).getD []).length ≤ 120 := by
 cases h : bv_ s with
 | none => simp
 | some t =>
  unfold bv_ at h
  split at h
  ·cases h
  ·have := mp_ _ _ _ _ h; simp only [Option.getD_some]; omega
theorem zs_ (l : List Str) (s : Str) : -1 ≤ dx_ l s ∧ dx_ l s < l.length := by
 unfold dx_
 split
 ·rename_i h
  have := List.idxOf_lt_length_iff.2 h
  omega
 ·omega
theorem abm_ (s : Str) (hs : s.length ≤ 281474976710656) : ACall En 78 [.s s] [] [.sl false (bp_ (da_ s)), .b (bv_ s).isSome] [] := by
 have T := rm_ s hs
 have hb := qj_ s
 unfold da_
 generalize (bv_ s).getD [] = ts at *
 have hp : ∀ k, b6_ (fk_ (bp_ (ts.map (·.s))) [.s []] k) = true := fun k => h5_ (aa_ _) rfl
 have hll : (bp_ (ts.map (·.s))).length = ts.length := by simp [bp_]
 refine al_ (fn := Tryz.f78) [] Tryz.func78 rfl rfl (by simp) fun C => ?_
 rw [aw_]
 simp only [Tryz.ntmps78, T7_, List.length_nil, Nat.reduceAdd, Nat.reduceSub, List.replicate_succ, List.replicate_zero, List.cons_append, List.nil_append, bo_]
 refine .seq (.rgn [] (by simp only [go_sem, seval, av_, at_, hp, a2_, a0_, hll]; rfl) ?_ ?_)
 ·first | trivial | simp
 refine .seq (.rgn [a4_ T] (by simp only [go_sem, seval, av_, at_, hp, a2_, a0_, hll]; rfl) ?_ ?_)
 ·first | trivial | simp
 refine .seq (.rgn [] (by simp only [go_sem, seval, av_, at_, hp, a2_, a0_, hll]; rfl) ?_ ?_)
 ·simp; omega
 refine .seq (.seq (.rgn [] (by simp only [go_sem, seval, av_, at_, hp, a2_, a0_, hll]; rfl) ?_ ?_))
 ·first | trivial | simp
 refine .block (.loopK (fun k : Nat => ⟨[.no, .no, .no, .no, .no, .b (bv_ s).isSome, .ow 26 1 0 ts.length, .no, .no, .no, .no, .no, .no, .no, .no, .no, .no, .sl false (tkR ts), .i .i64 ts.length, .i .i64 k, .no, .no, .no, .no, .no, .no, .no, .no, .no, .no, .no, .no], be_ [(26, ⟨9, 1, fk_ (bp_ (ts.map (·.s))) [.s []] k⟩)], us [26]⟩) (fun k : Nat => k ≤ ts.length) (fun k : Nat => ts.length - k) (0) ?_ ?_ (fun k hI => ?_))
 ·simp
 ·exact Can.weak (Weak.lit (by simp only [go_sem, seval, av_, at_, hp, a2_, a0_, hll, as_, leV, ap_, ar_, V.inn, us, T9_, Ta_] <;> (simp)) (by simp only [go_sem, seval, av_, at_, hp, a2_, a0_, hll, as_, leV, ap_, ar_, V.inn, us, T9_, Ta_]) (by simp only [go_sem, seval, av_, at_, hp, a2_, a0_, hll, as_, leV, ap_, ar_, V.inn, us, T9_, Ta_] <;> (simp [iq_, hll])))
 refine .seq (.rgn [] (by simp only [go_sem, seval, av_, at_, hp, a2_, a0_, hll]; rfl) ?_ ?_)
 ·first | trivial | simp
 refine .seq (.condB (by simp only [go_sem, seval, av_, at_, hp, a2_, a0_, hll]; rfl) (by simp only [go_sem, seval, av_, at_, hp, a2_, a0_, hll]) (fun h20 => ?_) (fun h20 => ?_))
 ·refine .skip (.seq (.block (.seq (.rgn [] (by simp only [go_sem, seval, av_, at_, hp, a2_, a0_, hll, tq_ (show k < ts.length by simpa using h20)]; rfl) ?_ ?_))))
  ·simp at h20; simp; omega
  refine .rgn [] (by simp only [go_sem, seval, av_, at_, hp, a2_, a0_, hll]; rfl) ?_ ?_
  ·simp at h20; simp; omega
  refine .rgn [] (by simp only [go_sem, seval, av_, at_, hp, a2_, a0_, hll]; rfl) ?_ ?_
  ·first | trivial | simp
  refine Exists.intro (k + 1) ⟨?_, ?_, ?_⟩
  ·simp at h20; omega
  ·simp at h20; omega
  exact Can.weak (Weak.lit (by simp only [go_sem, seval, av_, at_, hp, a2_, a0_, hll, as_, leV, ap_, ar_, V.inn, us, T9_, Ta_] <;> (rw [bd_ (by simp at h20; omega) (by simp at h20; omega)]; simp)) (by simp only [go_sem, seval, av_, at_, hp, a2_, a0_, hll, as_, leV, ap_, ar_, V.inn, us, T9_, Ta_]) (by simp only [go_sem, seval, av_, at_, hp, a2_, a0_, hll, as_, leV, ap_, ar_, V.inn, us, T9_, Ta_] <;> ((rw [← id_ (by rw [hll]; simpa using h20), cd_ (by simpa using h20)]; simp [T8_, T6_ (show k < ts.length by simpa using h20)]))))
 ·refine .exit (.seq (.rgn [] (by simp only [go_sem, seval, av_, at_, hp, a2_, a0_, hll]; rfl) ?_ ?_))
  ·first | trivial | simp
  refine .frz 26 (by simp only [go_sem, seval, av_, at_, hp, a2_, a0_, hll]; rfl) (by simp only [go_sem, seval, av_, at_, hp, a2_, a0_, hll]) (by simp only [go_sem, seval, av_, at_, hp, a2_, a0_, hll]; rfl) (by simp only [go_sem, seval, av_, at_, hp, a2_, a0_, hll]; rfl) ?_
  refine .ret ⟨.inr rfl, ?_⟩
  exact Out.plain (by simp only [Tryz.results78]; rfl) (by simp only [ay_, a6_, go_sem, seval, av_, at_, hp, a2_, a0_, hll] <;> (split <;> rfl)) (by simp only [a5_, go_sem, seval, av_, at_, hp, a2_, a0_, hll] <;> (simp at h20; rw [jw_ (by omega)]; simp [← hll, T1_, peel])) (by simp only [go_sem, seval, av_, at_, hp, a2_, a0_, hll])
theorem akt_ (w : List Str) : (decide ((w.length : Int) > 0) = true → decide ((w.length : Int) > 0) = true ∧ (0 : Int) < w.length ∧ ((bp_ w).getD 0 []).length = 1) ∧ (decide ((w.length : Int) > 0) = true → (decide ((w.length : Int) > 0) = true ∧ 1 ≤ ((bp_ w).getD 0 []).length) ∧ ({ v := ((bp_ w).getD 0 []).getD 0 .no } : Eff) = { v := .s (w.getD 0 []) }) := by
 cases w with
 | nil => simp
 | cons x r => simp [bp_]
end
section
set_option maxRecDepth 100000
set_option maxHeartbeats 8000000
theorem aaw_ {w : List Str} (h : smW w) : sm (ex w) = true := by
 have hS := ((i_sm 500).1 1 ⟨w, false, 0⟩ h).1
 unfold ex fo_
 split
 ·split
  ·exact (show sm E0 = true by decide)
  ·exact hS
 ·exact (show sm E0 = true by decide)
theorem ky_ : ∀ (n : Nat) (l : Str) (c : Int) (t : List Tk), e5_ n l c = some t → ∀ x ∈ t, x.s.length ≤ l.length
 | 0, l, c, t, h => by simp [e5_] at h; subst h; intro x hx; cases hx
 | n + 1, [], c, t, h => by simp [e5_] at h; subst h; intro x hx; cases hx
 | n + 1, y :: l, c, t, h => by
  simp only [e5_] at h
  split at h
  ·intro x hx; have := ky_ n l _ t h x hx; simp only [T7_]; omega
  ·split at h
   ·cases h
   ·obtain ⟨u, hu, rfl⟩ := Option.map_eq_some_iff.1 h
    intro x hx
    rcases List.mem_cons.1 hx with rfl | hx
    ·simp only [List.length_take]; omega
    ·have h1 := ky_ n _ _ u hu x hx
     rw [List.length_drop] at h1; omega
theorem ty_ (s : Str) : smW (da_ s) ∧ (da_ s).length ≤ 120 := by
 refine ⟨?_, by unfold da_; rw [List.length_map]; exact qj_ s⟩
 unfold da_
 cases h : bv_ s with
 | none => intro w hw; simp at hw
 | some t =>
  unfold bv_ at h
  split at h
  ·cases h
  ·intro w hw
   simp only [Option.getD_some] at hw
   obtain ⟨x, hx, rfl⟩ := List.mem_map.1 hw
   have := ky_ _ _ _ _ h x hx
   omega
theorem aan_ {w : List Str} (h : smW w) (k : Nat) : (w.getD k []).length ≤ 281474976710656 := by
 rw [T8_]
 cases hk : w[k]? with
 | none => simp
 | some x => exact h x (List.mem_of_getElem? hk)
theorem a3_ (s : Sl) : ci_ (sC s) = true := by rw [am_]; simp only [ci_, V.pure, i3_, Bool.and_self]
theorem agt_ {w : List Str} (h : smW w) : e1_ (rdS w) = true := by
 have g := aan_ h
 have e := fun k => aaw_ (ed_ h k)
 have e0 : sm E0 = true := by decide
 unfold rdS
 split
 ·simp only [e1_, e, e0, Bool.and_true, T5_, T3_]; have := g 1; have := g 3; omega
 ·split
  ·simp only [e1_, e, e0, Bool.and_true]; rfl
  ·split
   ·split
    ·simp only [e1_, e, aaw_ (ed_ (lo_ h _) 1), Bool.and_true]; rfl
    ·simp only [e1_, e0, Bool.and_true]; rfl
   ·decide
theorem v3_ {w : List Str} (h : (decide ((w.length : Int) > 5) && w.getD 0 [] == [108, 101, 116]) = true) : 5 < w.length ∧ w.getD 0 [] = hz_ := by
 simp only [T5_, T3_, beq_iff_eq] at h; exact ⟨by omega, h.2⟩
theorem z7_ {w : List Str} (h : (decide ((w.length : Int) > 5) && w.getD 0 [] == [108, 101, 116]) = false) : ¬ (5 < w.length ∧ w.getD 0 [] = hz_) := fun q => by
 have : (decide ((w.length : Int) > 5) && w.getD 0 [] == [108, 101, 116]) = true := by simp only [T5_, T3_, beq_iff_eq]; exact ⟨by omega, q.2⟩
 rw [this] at h; cases h
theorem als_ (w : List Str) (c : Bool) (hc : c = true → w ≠ []) : (c = true → c = true ∧ (0 : Int) < w.length ∧ ((bp_ w).getD 0 []).length = 1) ∧ (c = true → (c = true ∧ 1 ≤ ((bp_ w).getD 0 []).length) ∧ ({ v := ((bp_ w).getD 0 []).getD 0 .no } : Eff) = { v := .s (w.getD 0 []) }) := by
 cases w with
 | nil => exact ⟨fun h => absurd rfl (hc h), fun h => absurd rfl (hc h)⟩
 | cons x r => simp [bp_]
theorem ym_ (w : List Str) (hw : smW w) (hl : w.length ≤ 100000) : ACall En 79 [.sl false (bp_ w)] [] [.ag (sC (rdS w))] [] := by
 have hs := zs_ w br_
 simp only [br_] at hs
 have hsw : IntKind.i64.wrap (dx_ w [115, 97, 121] + 1) = dx_ w [115, 97, 121] + 1 := bd_ (by omega) (by omega)
 have ht : 0 < dx_ w [115, 97, 121] → (dx_ w [115, 97, 121] + 1).toNat = (dx_ w [115, 97, 121]).toNat + 1 := fun h => by omega
 refine al_ (fn := Tryz.f79) [] Tryz.func79 rfl rfl (by simp) fun C => ?_
 rw [aw_]
 simp only [Tryz.ntmps79, T7_, List.length_nil, Nat.reduceAdd, Nat.reduceSub, List.replicate_succ, List.replicate_zero, List.cons_append, List.nil_append, bo_]
 refine .seq (.rgn [] (by simp only [go_sem, seval, asO, ab_, aa_, ba_, bb_, br_, hsw, a3_]; rfl) ?_ ?_)
 ·(first | trivial | (simp; done) | (simp [bg_]; done) | (simp [bg_]; omega))
 refine .seq (.rgn [] (by simp only [go_sem, seval, asO, ab_, aa_, ba_, bb_, br_, hsw, a3_]; rfl) ?_ ?_)
 ·(first | trivial | (simp; done) | (simp [bg_]; done) | (simp [bg_]; omega))
 refine .seq (.block (.seq (.rgnS [12] [asO En { v := .s (w.getD 0 []) }] (by simp only [go_sem, seval, asO, ab_, aa_, ba_, bb_, br_, hsw, a3_]; rfl) ?_ ?_)))
 ·exact als_ w _ (fun h e => by simp [e] at h)
 refine .condB (by simp only [go_sem, seval, asO, ab_, aa_, ba_, bb_, br_, hsw, a3_]; rfl) (by simp only [go_sem, seval, asO, ab_, aa_, ba_, bb_, br_, hsw, a3_]) (fun h5 => ?_) (fun h5 => ?_)
 ·refine .seq (.rgnD [] enM (by simp only [go_sem, seval, asO, ab_, aa_, ba_, bb_, br_, hsw, a3_, cd_ (show 1 < w.length by have := v3_ h5; omega), cd_ (show 3 < w.length by have := v3_ h5; omega)]; rfl) (by rfl) ?_ ?_)
  ·have := v3_ h5; (first | omega | (simp [bg_, bz_]; omega))
  refine .rgn [a4_ (hx_ (w.drop 5) (ed_ hw 5) (by simp; omega))] (by simp only [go_sem, seval, asO, ab_, aa_, ba_, bb_, br_, hsw, a3_]; rfl) ?_ ?_
  ·have := v3_ h5; simp [bg_, a9_]; omega
  refine .seq (.rgn [] (by simp only [go_sem, seval, asO, ab_, aa_, ba_, bb_, br_, hsw, a3_]; rfl) ?_ ?_)
  ·(first | trivial | (simp; done) | (simp [bg_]; done) | (simp [bg_]; omega))
  refine .ret ⟨.inr rfl, ?_⟩
  exact Out.plainL (by simp only [Tryz.results79]; rfl) (by simp only [ay_, a6_, go_sem, seval, asO, ab_, aa_, ba_, bb_, br_, hsw, a3_] <;> (split <;> rfl)) (by simp only [a5_, go_sem, seval, asO, ab_, aa_, ba_, bb_, br_, hsw, a3_] <;> ((have e : rdS w = ⟨1, w.getD 1 [], w.getD 3 [], ex (w.drop 5), E0⟩ := (by unfold rdS; rw [if_pos (v3_ h5)])); rw [e, am_]; simp [les, leV, ler, a9_, i8_, iz_, i4_, dj_, d8_])) (by simp only [go_sem, seval, asO, ab_, aa_, ba_, bb_, br_, hsw, a3_])
 ·refine .seq (.rgnS [38] [asO En { v := .s (w.getD 0 []) }] (by simp only [go_sem, seval, asO, ab_, aa_, ba_, bb_, br_, hsw, a3_]; rfl) ?_ ?_)
  ·exact akt_ w
  refine .condB (by simp only [go_sem, seval, asO, ab_, aa_, ba_, bb_, br_, hsw, a3_]; rfl) (by simp only [go_sem, seval, asO, ab_, aa_, ba_, bb_, br_, hsw, a3_]) (fun h31 => ?_) (fun h31 => ?_)
  ·refine .seq (.rgn [] (by simp only [go_sem, seval, asO, ab_, aa_, ba_, bb_, br_, hsw, a3_]; rfl) ?_ ?_)
   ·(first | trivial | (simp; done) | (simp [bg_]; done) | (simp [bg_]; omega))
   refine .rgn [a4_ (hx_ (w.drop 1) (ed_ hw 1) (by simp; omega))] (by simp only [go_sem, seval, asO, ab_, aa_, ba_, bb_, br_, hsw, a3_]; rfl) ?_ ?_
   ·simp only [T5_, T3_] at h31; simp [bg_, a9_]; omega
   refine .seq (.rgn [] (by simp only [go_sem, seval, asO, ab_, aa_, ba_, bb_, br_, hsw, a3_]; rfl) ?_ ?_)
   ·(first | trivial | (simp; done) | (simp [bg_]; done) | (simp [bg_]; omega))
   refine .ret ⟨.inr rfl, ?_⟩
   exact Out.plainL (by simp only [Tryz.results79]; rfl) (by simp only [ay_, a6_, go_sem, seval, asO, ab_, aa_, ba_, bb_, br_, hsw, a3_] <;> (split <;> rfl)) (by simp only [a5_, go_sem, seval, asO, ab_, aa_, ba_, bb_, br_, hsw, a3_] <;> ((have e : rdS w = ⟨2, [], [], ex (w.drop 1), E0⟩ := (by unfold rdS; rw [if_neg (z7_ h5), if_pos (by simpa [br_] using h31)])); rw [e, am_]; simp [les, leV, ler, a9_, i8_, iz_, i4_, dj_, d8_])) (by simp only [go_sem, seval, asO, ab_, aa_, ba_, bb_, br_, hsw, a3_])
  ·refine .seq (.rgnS [56] [asO En { v := .s (w.getD 0 []) }] (by simp only [go_sem, seval, asO, ab_, aa_, ba_, bb_, br_, hsw, a3_]; rfl) ?_ ?_)
   ·exact akt_ w
   refine .condB (by simp only [go_sem, seval, asO, ab_, aa_, ba_, bb_, br_, hsw, a3_]; rfl) (by simp only [go_sem, seval, asO, ab_, aa_, ba_, bb_, br_, hsw, a3_]) (fun h49 => ?_) (fun h49 => ?_)
   ·refine .seq (.rgn [] (by simp only [go_sem, seval, asO, ab_, aa_, ba_, bb_, br_, hsw, a3_]; rfl) ?_ ?_)
    ·(first | trivial | (simp; done) | (simp [bg_]; done) | (simp [bg_]; omega))
    refine .seq (.rgn [a4_ (aae_ w br_ (by omega))] (by simp only [go_sem, seval, asO, ab_, aa_, ba_, bb_, br_, hsw, a3_]; rfl) ?_ ?_)
    ·(first | trivial | (simp; done) | (simp [bg_]; done) | (simp [bg_]; omega))
    refine .seq (.rgn [] (by simp only [go_sem, seval, asO, ab_, aa_, ba_, bb_, br_, hsw, a3_]; rfl) ?_ ?_)
    ·(first | trivial | (simp; done) | (simp [bg_]; done) | (simp [bg_]; omega))
    refine .condB (by simp only [go_sem, seval, asO, ab_, aa_, ba_, bb_, br_, hsw, a3_]; rfl) (by simp only [go_sem, seval, asO, ab_, aa_, ba_, bb_, br_, hsw, a3_]) (fun h63 => ?_) (fun h63 => ?_)
    ·refine .seq (.rgn [a4_ (hx_ ((w.take (dx_ w br_).toNat).drop 1) (ed_ (lo_ hw _) 1) (by simp; omega))] (by simp only [go_sem, seval, asO, ab_, aa_, ba_, bb_, br_, hsw, a3_]; rfl) ?_ ?_)
     ·simp only [T3_] at h63; simp [bg_]; omega
     refine .rgn [a4_ (hx_ (w.drop ((dx_ w br_).toNat + 1)) (ed_ hw _) (by simp; omega))] (by simp only [go_sem, seval, asO, ab_, aa_, ba_, bb_, br_, hsw, a3_, ht (by simpa using h63)]; rfl) ?_ ?_
     ·simp only [T3_] at h63; simp [bg_, a9_]; omega
     refine .seq (.rgn [] (by simp only [go_sem, seval, asO, ab_, aa_, ba_, bb_, br_, hsw, a3_]; rfl) ?_ ?_)
     ·(first | trivial | (simp; done) | (simp [bg_]; done) | (simp [bg_]; omega))
     refine .ret ⟨.inr rfl, ?_⟩
     exact Out.plainL (by simp only [Tryz.results79]; rfl) (by simp only [ay_, a6_, go_sem, seval, asO, ab_, aa_, ba_, bb_, br_, hsw, a3_] <;> (split <;> rfl)) (by simp only [a5_, go_sem, seval, asO, ab_, aa_, ba_, bb_, br_, hsw, a3_] <;> ((have e : rdS w = ⟨3, [], [], ex ((w.take (dx_ w br_).toNat).drop 1), ex (w.drop ((dx_ w br_).toNat + 1))⟩ := (by unfold rdS; rw [if_neg (z7_ h5), if_neg (by simpa [br_] using h31), if_pos (by simpa [dp_] using h49), if_pos (by simpa [br_] using h63)])); rw [e, am_]; simp [br_, les, leV, ler, a9_])) (by simp only [go_sem, seval, asO, ab_, aa_, ba_, bb_, br_, hsw, a3_])
    ·refine .skip (.seq (.rgn [] (by simp only [go_sem, seval, asO, ab_, aa_, ba_, bb_, br_, hsw, a3_]; rfl) ?_ ?_))
     ·(first | trivial | (simp; done) | (simp [bg_]; done) | (simp [bg_]; omega))
     refine .ret ⟨.inr rfl, ?_⟩
     exact Out.plainL (by simp only [Tryz.results79]; rfl) (by simp only [ay_, a6_, go_sem, seval, asO, ab_, aa_, ba_, bb_, br_, hsw, a3_] <;> (split <;> rfl)) (by simp only [a5_, go_sem, seval, asO, ab_, aa_, ba_, bb_, br_, hsw, a3_] <;> ((have e : rdS w = ⟨3, [], [], E0, E0⟩ := (by unfold rdS; rw [if_neg (z7_ h5), if_neg (by simpa [br_] using h31), if_pos (by simpa [dp_] using h49), if_neg (by simpa [br_] using h63)])); rw [e, am_]; simp [les, leV, ler, a9_, i8_, iz_, i4_, dj_, d8_])) (by simp only [go_sem, seval, asO, ab_, aa_, ba_, bb_, br_, hsw, a3_])
   ·refine .skip (.seq (.rgn [] (by simp only [go_sem, seval, asO, ab_, aa_, ba_, bb_, br_, hsw, a3_]; rfl) ?_ ?_))
    ·(first | trivial | (simp; done) | (simp [bg_]; done) | (simp [bg_]; omega))
    refine .ret ⟨.inr rfl, ?_⟩
    exact Out.plainL (by simp only [Tryz.results79]; rfl) (by simp only [ay_, a6_, go_sem, seval, asO, ab_, aa_, ba_, bb_, br_, hsw, a3_] <;> (split <;> rfl)) (by simp only [a5_, go_sem, seval, asO, ab_, aa_, ba_, bb_, br_, hsw, a3_] <;> ((have e : rdS w = S0 := (by unfold rdS; rw [if_neg (z7_ h5), if_neg (by simpa [br_] using h31), if_neg (by simpa [dp_] using h49)])); rw [e, am_]; simp [S0, les, leV, ler, a9_, i8_, iz_, i4_, dj_, d8_])) (by simp only [go_sem, seval, asO, ab_, aa_, ba_, bb_, br_, hsw, a3_])
theorem o2_ {line : Str} (h : ¬ ((bv_ line).isSome = true ∧ sok (rdS (da_ line)) = true ∧ ei_ (rdS (da_ line)) = line)) : c6_ line = none := by
 unfold c6_ da_ at *
 cases ht : bv_ line with
 | none => rfl
 | some ts =>
  rw [ht] at h
  simp only [Option.getD_some] at h
  dsimp only
  rw [if_neg]
  rintro ⟨h1, h2⟩
  exact h ⟨rfl, h1, by unfold ei_; rw [if_pos h1]; exact h2⟩
theorem qt_ {line : Str} (h : (bv_ line).isSome = true) (h1 : sok (rdS (da_ line)) = true) (h2 : ei_ (rdS (da_ line)) = line) : c6_ line = some (rdS (da_ line)) := by
 unfold c6_ da_ at *
 cases ht : bv_ line with
 | none => rw [ht] at h; cases h
 | some ts =>
  rw [ht] at h1 h2
  simp only [Option.getD_some] at h1 h2 ⊢
  rw [if_pos ⟨h1, by unfold ei_ at h2; rw [if_pos h1] at h2; exact h2⟩]
theorem us_ (line : Str) (hl : line.length ≤ 281474976710656) : ACall En 45 [.s line] [] [.ag (sC ((c6_ line).getD S0)), .b (c6_ line).isSome] [] := by
 obtain ⟨w1, w2⟩ := ty_ line
 have hs := agt_ w1
 refine al_ (fn := Tryz.f45) [] Tryz.func45 rfl rfl (by simp) fun C => ?_
 rw [aw_]
 simp only [Tryz.ntmps45, T7_, List.length_nil, Nat.reduceAdd, Nat.reduceSub, List.replicate_succ, List.replicate_zero, List.cons_append, List.nil_append, bo_]
 refine .seq (.rgn [] (by simp only [go_sem, seval, aa_, a3_, am_]; rfl) ?_ ?_)
 ·first | trivial | simp
 refine .seq (.rgn [a4_ (abm_ line hl)] (by simp only [go_sem, seval, aa_, a3_, am_]; rfl) ?_ ?_)
 ·first | trivial | simp
 refine .seq (.rgn [a4_ (ym_ (da_ line) w1 (by omega))] (by simp only [go_sem, seval, aa_, a3_, am_]; rfl) ?_ ?_)
 ·first | trivial | simp
 refine .seq (.seq (.rgn [a4_ (rq_ (rdS (da_ line)) hs), a4_ (vp_ (rdS (da_ line)) hs)] (by simp only [go_sem, seval, aa_, a3_, am_]; rfl) ?_ ?_))
 ·first | trivial | simp
 refine .condB (by simp only [go_sem, seval, aa_, a3_, am_]; rfl) (by simp only [go_sem, seval, aa_, a3_, am_]) (fun h26 => ?_) (fun h26 => ?_)
 ·refine .seq (.rgn [] (by simp only [go_sem, seval, aa_, a3_, am_]; rfl) ?_ ?_)
  ·first | trivial | simp
  refine .ret ⟨.inr rfl, ?_⟩
  exact Out.plainL (by simp only [Tryz.results45]; rfl) (by simp only [ay_, a6_, go_sem, seval, aa_, a3_, am_] <;> (split <;> rfl)) (by simp only [a5_, go_sem, seval, aa_, a3_, am_] <;> (rw [o2_ (by intro q; simp [q.1, q.2.1, q.2.2] at h26)]; simp [S0, les, leV, ler, a9_, i8_, iz_, i4_, dj_, d8_])) (by simp only [go_sem, seval, aa_, a3_, am_])
 ·refine .skip (.seq (.rgn [] (by simp only [go_sem, seval, aa_, a3_, am_]; rfl) ?_ ?_))
  ·first | trivial | simp
  refine .ret ⟨.inr rfl, ?_⟩
  exact Out.plainL (by simp only [Tryz.results45]; rfl) (by simp only [ay_, a6_, go_sem, seval, aa_, a3_, am_] <;> (split <;> rfl)) (by simp only [a5_, go_sem, seval, aa_, a3_, am_] <;> (rw [qt_ (by simp at h26; exact h26.1.1) (by simp at h26; exact h26.1.2) (by simp at h26; exact h26.2)]; simp [les, leV, ler, a9_])) (by simp only [go_sem, seval, aa_, a3_, am_])
end
end Go.Proofs.YtpikbndepapbhaaGreatDoor
