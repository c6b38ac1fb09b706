/- Lines are read: the program's. Conditions: none. -/
import Derived.Test.YtefmbmafdgedmaaGreatDoorKt
import Derived.Test.YtefmbmafdgedmaaGreatDoorKn
import Derived.Test.YtefmbmafdgedmaaGreatDoorKl
set_option linter.unusedVariables false
set_option linter.unusedSimpArgs false
namespace Go.Proofs.YtefmbmafdgedmaaGreatDoor
section
set_option maxRecDepth 100000
set_option maxHeartbeats 8000000
theorem an_ (l : List Str) (k : Nat) : (by_ l).drop k = by_ (l.drop k) := by simp [by_, List.map_drop]
theorem am_ (l : List Str) (k : Nat) : (by_ l).take k = by_ (l.take k) := by simp [by_, List.map_take]
theorem dj_ {l : List Str} (h : smW l) (k : Nat) : smW (l.drop k) := fun w hw => h w (List.mem_of_mem_drop hw)
theorem ia_ {l : List Str} (h : smW l) (k : Nat) : smW (l.take k) := fun w hw => h w (List.mem_of_mem_take hw)
def cs_ (s : Str) : List Str := ((ch_ s).getD []).map (·.s)
theorem lp_ : ∀ (n : Nat) (l : Str) (c : Int) (t : List Tk), e5_ n l c = some t → t.length ≤ l.length
 | 0, l, c, t, h => by simp [e5_] at h; subst h; simp
 | n + 1, [], c, t, h => by simp [e5_] at h; subst h; simp
 | n + 1, x :: l, c, t, h => by
  simp only [e5_] at h
  split at h
  ·have := lp_ n l _ t h; simp only [T7_]; omega
  ·split at h
   ·cases h
   ·obtain ⟨u, hu, rfl⟩ := Option.map_eq_some_iff.1 h
    have h1 := lp_ n _ _ u hu
    have h2 := kj_ (x :: l)
    rw [List.length_drop] at h1
    simp only [T7_] at h1 ⊢; omega
theorem nn_ (s : Str) : ((ch_ s).getD []).length ≤ 120 := by
 cases h : ch_ s with
 | none => simp
 | some t =>
  unfold ch_ at h
  split at h
  ·cases h
  ·have := lp_ _ _ _ _ h; simp only [Option.getD_some]; omega
theorem a9_ (b : Bl) : dp_ (bC b) = true := by rw [as_]; simp only [dp_, V.pure, h5_, Bool.and_self]
theorem qy_ (l : List Str) (s : Str) : -1 ≤ co_ l s ∧ co_ l s < l.length := by
 unfold co_
 split
 ·rename_i h
  have := List.idxOf_lt_length_iff.2 h
  omega
 ·omega
theorem o2_ (s : Str) (hs : s.length ≤ 281474976710656) : ACall En 63 [.s s] [] [.sl false (by_ (cs_ s)), .b (ch_ s).isSome] [] := by
 have T := w6_ s hs
 have hb := nn_ s
 unfold cs_
 generalize (ch_ s).getD [] = ts at *
 have hp : ∀ k, cr_ (h9_ (by_ (ts.map (·.s))) [.s []] k) = true := fun k => ll_ (aa_ _) rfl
 have hll : (by_ (ts.map (·.s))).length = ts.length := by simp [by_]
 refine aq_ (fn := Tryz.f63) [] Tryz.func63 rfl rfl (by simp) fun C => ?_
 rw [bb_]
 simp only [Tryz.ntmps63, T7_, List.length_nil, Nat.reduceAdd, Nat.reduceSub, List.replicate_succ, List.replicate_zero, List.cons_append, List.nil_append, bl_]
 refine .seq (.rgn [] (by simp only [go_sem, seval, ay_, at_, hp, a5_, bm_, hll]; rfl) ?_ ?_)
 ·first | trivial | simp
 refine .seq (.rgn [bj_ T] (by simp only [go_sem, seval, ay_, at_, hp, a5_, bm_, hll]; rfl) ?_ ?_)
 ·first | trivial | simp
 refine .seq (.rgn [] (by simp only [go_sem, seval, ay_, at_, hp, a5_, bm_, hll]; rfl) ?_ ?_)
 ·simp; omega
 refine .seq (.seq (.rgn [] (by simp only [go_sem, seval, ay_, at_, hp, a5_, bm_, hll]; rfl) ?_ ?_))
 ·first | trivial | simp
 refine .block (.loopK (fun k : Nat => ⟨[.no, .no, .no, .no, .no, .b (ch_ s).isSome, .ow 26 1 0 ts.length, .no, .no, .no, .no, .no, .no, .no, .no, .no, .no, .sl false (tkR ts), .i .i64 ts.length, .i .i64 k, .no, .no, .no, .no, .no, .no, .no, .no, .no, .no, .no, .no], be_ [(26, ⟨9, 1, h9_ (by_ (ts.map (·.s))) [.s []] k⟩)], us [26]⟩) (fun k : Nat => k ≤ ts.length) (fun k : Nat => ts.length - k) (0) ?_ ?_ (fun k hI => ?_))
 ·simp
 ·exact Can.weak (Weak.lit (by simp only [go_sem, seval, ay_, at_, hp, a5_, bm_, hll, a2_, leV, az_, a0_, V.inn, us, T9_, Ta_] <;> (simp)) (by simp only [go_sem, seval, ay_, at_, hp, a5_, bm_, hll, a2_, leV, az_, a0_, V.inn, us, T9_, Ta_]) (by simp only [go_sem, seval, ay_, at_, hp, a5_, bm_, hll, a2_, leV, az_, a0_, V.inn, us, T9_, Ta_] <;> (simp [lf_, hll])))
 refine .seq (.rgn [] (by simp only [go_sem, seval, ay_, at_, hp, a5_, bm_, hll]; rfl) ?_ ?_)
 ·first | trivial | simp
 refine .seq (.condB (by simp only [go_sem, seval, ay_, at_, hp, a5_, bm_, hll]; rfl) (by simp only [go_sem, seval, ay_, at_, hp, a5_, bm_, hll]) (fun h20 => ?_) (fun h20 => ?_))
 ·refine .skip (.seq (.block (.seq (.rgn [] (by simp only [go_sem, seval, ay_, at_, hp, a5_, bm_, hll, v5_ (show k < ts.length by simpa using h20)]; rfl) ?_ ?_))))
  ·simp at h20; simp; omega
  refine .rgn [] (by simp only [go_sem, seval, ay_, at_, hp, a5_, bm_, hll]; rfl) ?_ ?_
  ·simp at h20; simp; omega
  refine .rgn [] (by simp only [go_sem, seval, ay_, at_, hp, a5_, bm_, hll]; rfl) ?_ ?_
  ·first | trivial | simp
  refine Exists.intro (k + 1) ⟨?_, ?_, ?_⟩
  ·simp at h20; omega
  ·simp at h20; omega
  exact Can.weak (Weak.lit (by simp only [go_sem, seval, ay_, at_, hp, a5_, bm_, hll, a2_, leV, az_, a0_, V.inn, us, T9_, Ta_] <;> (rw [bt_ (by simp at h20; omega) (by simp at h20; omega)]; simp)) (by simp only [go_sem, seval, ay_, at_, hp, a5_, bm_, hll, a2_, leV, az_, a0_, V.inn, us, T9_, Ta_]) (by simp only [go_sem, seval, ay_, at_, hp, a5_, bm_, hll, a2_, leV, az_, a0_, V.inn, us, T9_, Ta_] <;> ((rw [← in_ (by rw [hll]; simpa using h20), dl_ (by simpa using h20)]; simp [T8_, T6_ (show k < ts.length by simpa using h20)]))))
 ·refine .exit (.seq (.rgn [] (by simp only [go_sem, seval, ay_, at_, hp, a5_, bm_, hll]; rfl) ?_ ?_))
  ·first | trivial | simp
  refine .frz 26 (by simp only [go_sem, seval, ay_, at_, hp, a5_, bm_, hll]; rfl) (by simp only [go_sem, seval, ay_, at_, hp, a5_, bm_, hll]) (by simp only [go_sem, seval, ay_, at_, hp, a5_, bm_, hll]; rfl) (by simp only [go_sem, seval, ay_, at_, hp, a5_, bm_, hll]; rfl) ?_
  refine .ret ⟨.inr rfl, ?_⟩
  exact Out.plain (by simp only [Tryz.results63]; rfl) (by simp only [a4_, bh_, go_sem, seval, ay_, at_, hp, a5_, bm_, hll] <;> (split <;> rfl)) (by simp only [bg_, go_sem, seval, ay_, at_, hp, a5_, bm_, hll] <;> (simp at h20; rw [oe_ (by omega)]; simp [← hll, T1_, peel])) (by simp only [go_sem, seval, ay_, at_, hp, a5_, bm_, hll])
theorem v9_ (w : List Str) : (decide ((w.length : Int) > 0) = true → decide ((w.length : Int) > 0) = true ∧ (0 : Int) < w.length ∧ ((by_ w).getD 0 []).length = 1) ∧ (decide ((w.length : Int) > 0) = true → (decide ((w.length : Int) > 0) = true ∧ 1 ≤ ((by_ w).getD 0 []).length) ∧ ({ v := ((by_ w).getD 0 []).getD 0 .no } : Eff) = { v := .s (w.getD 0 []) }) := by
 cases w with
 | nil => simp
 | cons x r => simp [by_]
theorem uk_ (w : List Str) (hw : smW w) (hl : w.length ≤ 100000) : ACall En 64 [.sl false (by_ w)] [] [.ag (bC (c6_ w))] [] := by
 have hs := qy_ w bi_
 simp only [bi_] at hs
 have hsw : IntKind.i64.wrap (co_ w [58] + 2) = co_ w [58] + 2 := bt_ (by omega) (by omega)
 have ht : 0 < co_ w [58] → (co_ w [58] + 2).toNat = (co_ w [58]).toNat + 2 := fun h => by omega
 refine aq_ (fn := Tryz.f64) [] Tryz.func64 rfl rfl (by simp) fun C => ?_
 rw [bb_]
 simp only [Tryz.ntmps64, T7_, List.length_nil, Nat.reduceAdd, Nat.reduceSub, List.replicate_succ, List.replicate_zero, List.cons_append, List.nil_append, bl_]
 refine .seq (.rgn [] (by simp only [go_sem, seval, asO, ab_, aa_, an_, am_, bi_, hsw, a9_]; rfl) ?_ ?_)
 ·(first | trivial | (simp; done) | (simp [ba_]; done) | (simp [ba_]; omega))
 refine .seq (.rgn [] (by simp only [go_sem, seval, asO, ab_, aa_, an_, am_, bi_, hsw, a9_]; rfl) ?_ ?_)
 ·(first | trivial | (simp; done) | (simp [ba_]; done) | (simp [ba_]; omega))
 refine .seq (.block (.seq (.rgnS [12] [asO En { v := .s (w.getD 0 []) }] (by simp only [go_sem, seval, asO, ab_, aa_, an_, am_, bi_, hsw, a9_]; rfl) ?_ ?_)))
 ·exact v9_ w
 refine .condB (by simp only [go_sem, seval, asO, ab_, aa_, an_, am_, bi_, hsw, a9_]; rfl) (by simp only [go_sem, seval, asO, ab_, aa_, an_, am_, bi_, hsw, a9_]) (fun h5 => ?_) (fun h5 => ?_)
 ·refine .seq (.rgn [] (by simp only [go_sem, seval, asO, ab_, aa_, an_, am_, bi_, hsw, a9_]; rfl) ?_ ?_)
  ·(first | trivial | (simp; done) | (simp [ba_]; done) | (simp [ba_]; omega))
  refine .rgn [bj_ (hb_ (w.drop 1) (dj_ hw 1) (by simp; omega))] (by simp only [go_sem, seval, asO, ab_, aa_, an_, am_, bi_, hsw, a9_]; rfl) ?_ ?_
  ·simp only [T5_, T3_] at h5; simp [ba_, bu_]; omega
  refine .seq (.rgn [] (by simp only [go_sem, seval, asO, ab_, aa_, an_, am_, bi_, hsw, a9_]; rfl) ?_ ?_)
  ·(first | trivial | (simp; done) | (simp [ba_]; done) | (simp [ba_]; omega))
  refine .ret ⟨.inr rfl, ?_⟩
  exact Out.plainL (by simp only [Tryz.results64]; rfl) (by simp only [a4_, bh_, go_sem, seval, asO, ab_, aa_, an_, am_, bi_, hsw, a9_] <;> (split <;> rfl)) (by simp only [bg_, go_sem, seval, asO, ab_, aa_, an_, am_, bi_, hsw, a9_] <;> ((have e : c6_ w = ⟨2, [], ex (w.drop 1), E0⟩ := (by unfold c6_; rw [if_pos (by simpa [cj_] using h5)])); rw [e, as_]; simp [les, leV, ler, bu_, mb_, mi_, mh_, e9_, gd_])) (by simp only [go_sem, seval, asO, ab_, aa_, an_, am_, bi_, hsw, a9_])
 ·refine .seq (.rgnS [30] [asO En { v := .s (w.getD 0 []) }] (by simp only [go_sem, seval, asO, ab_, aa_, an_, am_, bi_, hsw, a9_]; rfl) ?_ ?_)
  ·exact v9_ w
  refine .condB (by simp only [go_sem, seval, asO, ab_, aa_, an_, am_, bi_, hsw, a9_]; rfl) (by simp only [go_sem, seval, asO, ab_, aa_, an_, am_, bi_, hsw, a9_]) (fun h23 => ?_) (fun h23 => ?_)
  ·refine .seq (.rgn [] (by simp only [go_sem, seval, asO, ab_, aa_, an_, am_, bi_, hsw, a9_]; rfl) ?_ ?_)
   ·(first | trivial | (simp; done) | (simp [ba_]; done) | (simp [ba_]; omega))
   refine .seq (.rgn [bj_ (q4_ w bi_ (by omega))] (by simp only [go_sem, seval, asO, ab_, aa_, an_, am_, bi_, hsw, a9_]; rfl) ?_ ?_)
   ·(first | trivial | (simp; done) | (simp [ba_]; done) | (simp [ba_]; omega))
   refine .seq (.rgn [] (by simp only [go_sem, seval, asO, ab_, aa_, an_, am_, bi_, hsw, a9_]; rfl) ?_ ?_)
   ·(first | trivial | (simp; done) | (simp [ba_]; done) | (simp [ba_]; omega))
   refine .condB (by simp only [go_sem, seval, asO, ab_, aa_, an_, am_, bi_, hsw, a9_]; rfl) (by simp only [go_sem, seval, asO, ab_, aa_, an_, am_, bi_, hsw, a9_]) (fun h44 => ?_) (fun h44 => ?_)
   ·refine .seq (.rgn [bj_ (hb_ ((w.take (co_ w bi_).toNat).drop 1) (dj_ (ia_ hw _) 1) (by simp; omega))] (by simp only [go_sem, seval, asO, ab_, aa_, an_, am_, bi_, hsw, a9_]; rfl) ?_ ?_)
    ·simp only [T5_, T3_] at h44; simp [ba_]; omega
    refine .rgn [bj_ (hb_ (w.drop ((co_ w bi_).toNat + 2)) (dj_ hw _) (by simp; omega))] (by simp only [go_sem, seval, asO, ab_, aa_, an_, am_, bi_, hsw, a9_, ht (by simp at h44; exact h44.1)]; rfl) ?_ ?_
    ·simp only [T5_, T3_] at h44; simp [ba_, bu_]; omega
    refine .seq (.rgn [] (by simp only [go_sem, seval, asO, ab_, aa_, an_, am_, bi_, hsw, a9_]; rfl) ?_ ?_)
    ·(first | trivial | (simp; done) | (simp [ba_]; done) | (simp [ba_]; omega))
    refine .ret ⟨.inr rfl, ?_⟩
    exact Out.plainL (by simp only [Tryz.results64]; rfl) (by simp only [a4_, bh_, go_sem, seval, asO, ab_, aa_, an_, am_, bi_, hsw, a9_] <;> (split <;> rfl)) (by simp only [bg_, go_sem, seval, asO, ab_, aa_, an_, am_, bi_, hsw, a9_] <;> ((have e : c6_ w = ⟨3, [], ex ((w.take (co_ w bi_).toNat).drop 1), ex (w.drop ((co_ w bi_).toNat + 2))⟩ := (by unfold c6_; rw [if_neg (by simpa [cj_] using h5), if_pos (by simpa [wIf] using h23), if_pos (by simpa [bi_] using h44)])); rw [e, as_]; simp [bi_, les, leV, ler, bu_])) (by simp only [go_sem, seval, asO, ab_, aa_, an_, am_, bi_, hsw, a9_])
   ·refine .skip (.seq (.rgn [] (by simp only [go_sem, seval, asO, ab_, aa_, an_, am_, bi_, hsw, a9_]; rfl) ?_ ?_))
    ·(first | trivial | (simp; done) | (simp [ba_]; done) | (simp [ba_]; omega))
    refine .ret ⟨.inr rfl, ?_⟩
    exact Out.plainL (by simp only [Tryz.results64]; rfl) (by simp only [a4_, bh_, go_sem, seval, asO, ab_, aa_, an_, am_, bi_, hsw, a9_] <;> (split <;> rfl)) (by simp only [bg_, go_sem, seval, asO, ab_, aa_, an_, am_, bi_, hsw, a9_] <;> ((have e : c6_ w = ⟨3, [], E0, E0⟩ := (by unfold c6_; rw [if_neg (by simpa [cj_] using h5), if_pos (by simpa [wIf] using h23), if_neg (by simpa [bi_] using h44)])); rw [e, as_]; simp [les, leV, ler, bu_, mb_, mi_, mh_, e9_, gd_])) (by simp only [go_sem, seval, asO, ab_, aa_, an_, am_, bi_, hsw, a9_])
  ·refine .seq (.rgn [] (by simp only [go_sem, seval, asO, ab_, aa_, an_, am_, bi_, hsw, a9_]; rfl) ?_ ?_)
   ·(first | trivial | (simp; done) | (simp [ba_]; done) | (simp [ba_]; omega))
   refine .condB (by simp only [go_sem, seval, asO, ab_, aa_, an_, am_, bi_, hsw, a9_]; rfl) (by simp only [go_sem, seval, asO, ab_, aa_, an_, am_, bi_, hsw, a9_]) (fun h62 => ?_) (fun h62 => ?_)
   ·refine .seq (.rgnD [] enM (by simp only [go_sem, seval, asO, ab_, aa_, an_, am_, bi_, hsw, a9_, dl_ (show 0 < w.length by simp at h62; omega)]; rfl) (by rfl) ?_ ?_)
    ·simp only [T3_] at h62; omega
    refine .rgn [bj_ (hb_ (w.drop 2) (dj_ hw 2) (by simp; omega))] (by simp only [go_sem, seval, asO, ab_, aa_, an_, am_, bi_, hsw, a9_]; rfl) ?_ ?_
    ·simp only [T3_] at h62; simp [ba_, bu_]; omega
    refine .seq (.rgn [] (by simp only [go_sem, seval, asO, ab_, aa_, an_, am_, bi_, hsw, a9_]; rfl) ?_ ?_)
    ·(first | trivial | (simp; done) | (simp [ba_]; done) | (simp [ba_]; omega))
    refine .ret ⟨.inr rfl, ?_⟩
    exact Out.plainL (by simp only [Tryz.results64]; rfl) (by simp only [a4_, bh_, go_sem, seval, asO, ab_, aa_, an_, am_, bi_, hsw, a9_] <;> (split <;> rfl)) (by simp only [bg_, go_sem, seval, asO, ab_, aa_, an_, am_, bi_, hsw, a9_] <;> ((have e : c6_ w = ⟨1, w.getD 0 [], ex (w.drop 2), E0⟩ := (by unfold c6_; rw [if_neg (by simpa [cj_] using h5), if_neg (by simpa [wIf] using h23), if_pos (by simp at h62; omega)])); rw [e, as_]; simp [les, leV, ler, bu_, mb_, mi_, mh_, e9_, gd_])) (by simp only [go_sem, seval, asO, ab_, aa_, an_, am_, bi_, hsw, a9_])
   ·refine .skip (.seq (.rgn [] (by simp only [go_sem, seval, asO, ab_, aa_, an_, am_, bi_, hsw, a9_]; rfl) ?_ ?_))
    ·(first | trivial | (simp; done) | (simp [ba_]; done) | (simp [ba_]; omega))
    refine .ret ⟨.inr rfl, ?_⟩
    exact Out.plainL (by simp only [Tryz.results64]; rfl) (by simp only [a4_, bh_, go_sem, seval, asO, ab_, aa_, an_, am_, bi_, hsw, a9_] <;> (split <;> rfl)) (by simp only [bg_, go_sem, seval, asO, ab_, aa_, an_, am_, bi_, hsw, a9_] <;> ((have e : c6_ w = B0 := (by unfold c6_; rw [if_neg (by simpa [cj_] using h5), if_neg (by simpa [wIf] using h23), if_neg (by simp at h62; omega)])); rw [e, as_]; simp [B0, les, leV, ler, bu_, mb_, mi_, mh_, e9_, gd_])) (by simp only [go_sem, seval, asO, ab_, aa_, an_, am_, bi_, hsw, a9_])
end
section
set_option maxRecDepth 100000
set_option maxHeartbeats 8000000
theorem vx_ {w : List Str} (h : smW w) : sm (ex w) = true := by
 have hS := ((x3_ 500).1 1 ⟨w, false, 0⟩ h).1
 unfold ex df_
 split
 ·split
  ·exact (show sm E0 = true by decide)
  ·exact hS
 ·exact (show sm E0 = true by decide)
theorem jx_ : ∀ (n : Nat) (l : Str) (c : Int) (t : List Tk), e5_ n l c = some t → ∀ x ∈ t, x.s.length ≤ l.length
 | 0, l, c, t, h => by simp [e5_] at h; subst h; intro x hx; cases hx
 | n + 1, [], c, t, h => by simp [e5_] at h; subst h; intro x hx; cases hx
 | n + 1, y :: l, c, t, h => by
  simp only [e5_] at h
  split at h
  ·intro x hx; have := jx_ n l _ t h x hx; simp only [T7_]; omega
  ·split at h
   ·cases h
   ·obtain ⟨u, hu, rfl⟩ := Option.map_eq_some_iff.1 h
    intro x hx
    rcases List.mem_cons.1 hx with rfl | hx
    ·simp only [List.length_take]; omega
    ·have h1 := jx_ n _ _ u hu x hx
     rw [List.length_drop] at h1; omega
theorem mj_ (s : Str) : smW (cs_ s) ∧ (cs_ s).length ≤ 120 := by
 refine ⟨?_, by unfold cs_; rw [List.length_map]; exact nn_ s⟩
 unfold cs_
 cases h : ch_ s with
 | none => intro w hw; simp at hw
 | some t =>
  unfold ch_ at h
  split at h
  ·cases h
  ·intro w hw
   simp only [Option.getD_some] at hw
   obtain ⟨x, hx, rfl⟩ := List.mem_map.1 hw
   have := jx_ _ _ _ _ h x hx
   omega
theorem uz_ {w : List Str} (h : smW w) (k : Nat) : (w.getD k []).length ≤ 281474976710656 := by
 rw [T8_]
 cases hk : w[k]? with
 | none => simp
 | some x => exact h x (List.mem_of_getElem? hk)
theorem q5_ {w : List Str} (h : smW w) : smb (c6_ w) = true := by
 have g := uz_ h
 have e := fun k => vx_ (dj_ h k)
 have e0 : sm E0 = true := by decide
 unfold c6_
 split
 ·simp only [smb, e, e0, Bool.and_true]; rfl
 ·split
  ·split
   ·simp only [smb, e, vx_ (dj_ (ia_ h _) 1), Bool.and_true]; rfl
   ·simp only [smb, e0, Bool.and_true]; rfl
  ·split
   ·simp only [smb, e, e0, Bool.and_true, T3_]; have := g 0; omega
   ·decide
theorem jr_ {line : Str} (h : ¬ ((ch_ line).isSome = true ∧ bok (c6_ (cs_ line)) = true ∧ ox_ (c6_ (cs_ line)) = line)) : em_ line = none := by
 unfold em_ cs_ at *
 cases ht : ch_ line with
 | none => rfl
 | some ts =>
  rw [ht] at h
  simp only [Option.getD_some] at h
  dsimp only
  rw [if_neg]
  rintro ⟨h1, h2⟩
  exact h ⟨rfl, h1, by unfold ox_; rw [if_pos h1]; exact h2⟩
theorem jl_ {line : Str} (h : (ch_ line).isSome = true) (h1 : bok (c6_ (cs_ line)) = true) (h2 : ox_ (c6_ (cs_ line)) = line) : em_ line = some (c6_ (cs_ line)) := by
 unfold em_ cs_ at *
 cases ht : ch_ line with
 | none => rw [ht] at h; cases h
 | some ts =>
  rw [ht] at h1 h2
  simp only [Option.getD_some] at h1 h2 ⊢
  rw [if_pos ⟨h1, by unfold ox_ at h2; rw [if_pos h1] at h2; exact h2⟩]
theorem r2_ (line : Str) (hl : line.length ≤ 281474976710656) : ACall En 20 [.s line] [] [.ag (bC ((em_ line).getD B0)), .b (em_ line).isSome] [] := by
 obtain ⟨w1, w2⟩ := mj_ line
 have hs := q5_ w1
 refine aq_ (fn := Tryz.f20) [] Tryz.func20 rfl rfl (by simp) fun C => ?_
 rw [bb_]
 simp only [Tryz.ntmps20, T7_, List.length_nil, Nat.reduceAdd, Nat.reduceSub, List.replicate_succ, List.replicate_zero, List.cons_append, List.nil_append, bl_]
 refine .seq (.rgn [] (by simp only [go_sem, seval, aa_, a9_, as_]; rfl) ?_ ?_)
 ·first | trivial | simp
 refine .seq (.rgn [bj_ (o2_ line hl)] (by simp only [go_sem, seval, aa_, a9_, as_]; rfl) ?_ ?_)
 ·first | trivial | simp
 refine .seq (.rgn [bj_ (uk_ (cs_ line) w1 (by omega))] (by simp only [go_sem, seval, aa_, a9_, as_]; rfl) ?_ ?_)
 ·first | trivial | simp
 refine .seq (.seq (.rgn [bj_ (k6_ (c6_ (cs_ line)) hs), bj_ (l4_ (c6_ (cs_ line)) hs)] (by simp only [go_sem, seval, aa_, a9_, as_]; rfl) ?_ ?_))
 ·first | trivial | simp
 refine .condB (by simp only [go_sem, seval, aa_, a9_, as_]; rfl) (by simp only [go_sem, seval, aa_, a9_, as_]) (fun h26 => ?_) (fun h26 => ?_)
 ·refine .seq (.rgn [] (by simp only [go_sem, seval, aa_, a9_, as_]; rfl) ?_ ?_)
  ·first | trivial | simp
  refine .ret ⟨.inr rfl, ?_⟩
  exact Out.plainL (by simp only [Tryz.results20]; rfl) (by simp only [a4_, bh_, go_sem, seval, aa_, a9_, as_] <;> (split <;> rfl)) (by simp only [bg_, go_sem, seval, aa_, a9_, as_] <;> (rw [jr_ (by intro q; simp [q.1, q.2.1, q.2.2] at h26)]; simp [B0, les, leV, ler, bu_, mb_, mi_, mh_, e9_, gd_])) (by simp only [go_sem, seval, aa_, a9_, as_])
 ·refine .skip (.seq (.rgn [] (by simp only [go_sem, seval, aa_, a9_, as_]; rfl) ?_ ?_))
  ·first | trivial | simp
  refine .ret ⟨.inr rfl, ?_⟩
  exact Out.plainL (by simp only [Tryz.results20]; rfl) (by simp only [a4_, bh_, go_sem, seval, aa_, a9_, as_] <;> (split <;> rfl)) (by simp only [bg_, go_sem, seval, aa_, a9_, as_] <;> (rw [jl_ (by simp at h26; exact h26.1.1) (by simp at h26; exact h26.1.2) (by simp at h26; exact h26.2)]; simp [les, leV, ler, bu_])) (by simp only [go_sem, seval, aa_, a9_, as_])
end
end Go.Proofs.YtefmbmafdgedmaaGreatDoor
