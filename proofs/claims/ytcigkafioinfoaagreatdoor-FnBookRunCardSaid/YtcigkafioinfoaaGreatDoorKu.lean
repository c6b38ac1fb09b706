/- Lines are read: the program's. Conditions: none. -/
import Derived.Test.YtcigkafioinfoaaGreatDoorKt
import Derived.Test.YtcigkafioinfoaaGreatDoorKn
import Derived.Test.YtcigkafioinfoaaGreatDoorKl
set_option linter.unusedVariables false
set_option linter.unusedSimpArgs false
namespace Go.Proofs.YtcigkafioinfoaaGreatDoor
section
set_option maxRecDepth 100000
set_option maxHeartbeats 8000000
theorem a2_ (l : List Str) (k : Nat) : (bo_ l).drop k = bo_ (l.drop k) := by simp [bo_, List.map_drop]
theorem a1_ (l : List Str) (k : Nat) : (bo_ l).take k = bo_ (l.take k) := by simp [bo_, List.map_take]
theorem cz_ {l : List Str} (h : smW l) (k : Nat) : smW (l.drop k) := fun w hw => h w (List.mem_of_mem_drop hw)
theorem hy_ {l : List Str} (h : smW l) (k : Nat) : smW (l.take k) := fun w hw => h w (List.mem_of_mem_take hw)
def ck_ (s : Str) : List Str := ((b4_ s).getD []).map (·.s)
theorem m5_ : ∀ (n : Nat) (l : Str) (c : Int) (t : List Tk), ez_ n l c = some t → t.length ≤ l.length
 | 0, l, c, t, h => by simp [ez_] at h; subst h; simp
 | n + 1, [], c, t, h => by simp [ez_] at h; subst h; simp
 | n + 1, x :: l, c, t, h => by
  simp only [ez_] at h
  split at h
  ·have := m5_ n l _ t h; simp only [T7_]; omega
  ·split at h
   ·cases h
   ·obtain ⟨u, hu, rfl⟩ := Option.map_eq_some_iff.1 h
    have h1 := m5_ n _ _ u hu
    have h2 := lk_ (x :: l)
    rw [List.length_drop] at h1
    simp only [T7_] at h1 ⊢; omega
theorem pu_ (s : Str) : ((b4_ s).getD []).length ≤ 120 := by
 cases h : b4_ s with
 | none => simp
 | some t =>
  unfold b4_ at h
  split at h
  ·cases h
  ·have := m5_ _ _ _ _ h; simp only [Option.getD_some]; omega
theorem bs_ (b : Bl) : cd_ (bC b) = true := by rw [at_]; simp only [cd_, V.pure, ga_, Bool.and_self]
theorem sz_ (l : List Str) (s : Str) : -1 ≤ cu_ l s ∧ cu_ l s < l.length := by
 unfold cu_
 split
 ·rename_i h
  have := List.idxOf_lt_length_iff.2 h
  omega
 ·omega
theorem sn_ (s : Str) (hs : s.length ≤ 281474976710656) : ACall En 73 [.s s] [] [.sl false (bo_ (ck_ s)), .b (b4_ s).isSome] [] := by
 have T := abe_ s hs
 have hb := pu_ s
 unfold ck_
 generalize (b4_ s).getD [] = ts at *
 have hp : ∀ k, b9_ (e7_ (bo_ (ts.map (·.s))) [.s []] k) = true := fun k => h7_ (aa_ _) rfl
 have hll : (bo_ (ts.map (·.s))).length = ts.length := by simp [bo_]
 refine aj_ (fn := Tryz.f73) [] Tryz.func73 rfl rfl (by simp) fun C => ?_
 rw [ay_]
 simp only [Tryz.ntmps73, T7_, List.length_nil, Nat.reduceAdd, Nat.reduceSub, List.replicate_succ, List.replicate_zero, List.cons_append, List.nil_append, bu_]
 refine .seq (.rgn [] (by simp only [go_sem, seval, a4_, aw_, hp, a6_, a0_, hll]; rfl) ?_ ?_)
 ·first | trivial | simp
 refine .seq (.rgn [a8_ T] (by simp only [go_sem, seval, a4_, aw_, hp, a6_, a0_, hll]; rfl) ?_ ?_)
 ·first | trivial | simp
 refine .seq (.rgn [] (by simp only [go_sem, seval, a4_, aw_, hp, a6_, a0_, hll]; rfl) ?_ ?_)
 ·simp; omega
 refine .seq (.seq (.rgn [] (by simp only [go_sem, seval, a4_, aw_, hp, a6_, a0_, hll]; rfl) ?_ ?_))
 ·first | trivial | simp
 refine .block (.loopK (fun k : Nat => ⟨[.no, .no, .no, .no, .no, .b (b4_ s).isSome, .ow 26 1 0 ts.length, .no, .no, .no, .no, .no, .no, .no, .no, .no, .no, .sl false (tkR ts), .i .i64 ts.length, .i .i64 k, .no, .no, .no, .no, .no, .no, .no, .no, .no, .no, .no, .no], bh_ [(26, ⟨9, 1, e7_ (bo_ (ts.map (·.s))) [.s []] k⟩)], us [26]⟩) (fun k : Nat => k ≤ ts.length) (fun k : Nat => ts.length - k) (0) ?_ ?_ (fun k hI => ?_))
 ·simp
 ·exact Can.weak (Weak.lit (by simp only [go_sem, seval, a4_, aw_, hp, a6_, a0_, hll, ar_, leV, ap_, aq_, V.inn, us, T9_, Ta_] <;> (simp)) (by simp only [go_sem, seval, a4_, aw_, hp, a6_, a0_, hll, ar_, leV, ap_, aq_, V.inn, us, T9_, Ta_]) (by simp only [go_sem, seval, a4_, aw_, hp, a6_, a0_, hll, ar_, leV, ap_, aq_, V.inn, us, T9_, Ta_] <;> (simp [hz_, hll])))
 refine .seq (.rgn [] (by simp only [go_sem, seval, a4_, aw_, hp, a6_, a0_, hll]; rfl) ?_ ?_)
 ·first | trivial | simp
 refine .seq (.condB (by simp only [go_sem, seval, a4_, aw_, hp, a6_, a0_, hll]; rfl) (by simp only [go_sem, seval, a4_, aw_, hp, a6_, a0_, hll]) (fun h20 => ?_) (fun h20 => ?_))
 ·refine .skip (.seq (.block (.seq (.rgn [] (by simp only [go_sem, seval, a4_, aw_, hp, a6_, a0_, hll, aa1_ (show k < ts.length by simpa using h20)]; rfl) ?_ ?_))))
  ·simp at h20; simp; omega
  refine .rgn [] (by simp only [go_sem, seval, a4_, aw_, hp, a6_, a0_, hll]; rfl) ?_ ?_
  ·simp at h20; simp; omega
  refine .rgn [] (by simp only [go_sem, seval, a4_, aw_, hp, a6_, a0_, hll]; rfl) ?_ ?_
  ·first | trivial | simp
  refine Exists.intro (k + 1) ⟨?_, ?_, ?_⟩
  ·simp at h20; omega
  ·simp at h20; omega
  exact Can.weak (Weak.lit (by simp only [go_sem, seval, a4_, aw_, hp, a6_, a0_, hll, ar_, leV, ap_, aq_, V.inn, us, T9_, Ta_] <;> (rw [bi_ (by simp at h20; omega) (by simp at h20; omega)]; simp)) (by simp only [go_sem, seval, a4_, aw_, hp, a6_, a0_, hll, ar_, leV, ap_, aq_, V.inn, us, T9_, Ta_]) (by simp only [go_sem, seval, a4_, aw_, hp, a6_, a0_, hll, ar_, leV, ap_, aq_, V.inn, us, T9_, Ta_] <;> ((rw [← h8_ (by rw [hll]; simpa using h20), cc_ (by simpa using h20)]; simp [T8_, T6_ (show k < ts.length by simpa using h20)]))))
 ·refine .exit (.seq (.rgn [] (by simp only [go_sem, seval, a4_, aw_, hp, a6_, a0_, hll]; rfl) ?_ ?_))
  ·first | trivial | simp
  refine .frz 26 (by simp only [go_sem, seval, a4_, aw_, hp, a6_, a0_, hll]; rfl) (by simp only [go_sem, seval, a4_, aw_, hp, a6_, a0_, hll]) (by simp only [go_sem, seval, a4_, aw_, hp, a6_, a0_, hll]; rfl) (by simp only [go_sem, seval, a4_, aw_, hp, a6_, a0_, hll]; rfl) ?_
  refine .ret ⟨.inr rfl, ?_⟩
  exact Out.plain (by simp only [Tryz.results73]; rfl) (by simp only [az_, bc_, go_sem, seval, a4_, aw_, hp, a6_, a0_, hll] <;> (split <;> rfl)) (by simp only [bb_, go_sem, seval, a4_, aw_, hp, a6_, a0_, hll] <;> (simp at h20; rw [jf_ (by omega)]; simp [← hll, T1_, peel])) (by simp only [go_sem, seval, a4_, aw_, hp, a6_, a0_, hll])
theorem zl_ (w : List Str) : (decide ((w.length : Int) > 0) = true → decide ((w.length : Int) > 0) = true ∧ (0 : Int) < w.length ∧ ((bo_ w).getD 0 []).length = 1) ∧ (decide ((w.length : Int) > 0) = true → (decide ((w.length : Int) > 0) = true ∧ 1 ≤ ((bo_ w).getD 0 []).length) ∧ ({ v := ((bo_ w).getD 0 []).getD 0 .no } : Eff) = { v := .s (w.getD 0 []) }) := by
 cases w with
 | nil => simp
 | cons x r => simp [bo_]
theorem yf_ (w : List Str) (hw : smW w) (hl : w.length ≤ 100000) : ACall En 130 [.sl false (bo_ w)] [] [.ag (bC (ff_ w))] [] := by
 have hs := sz_ w cb_
 simp only [cb_] at hs
 have hsw : IntKind.i64.wrap (cu_ w [58] + 2) = cu_ w [58] + 2 := bi_ (by omega) (by omega)
 have ht : 0 < cu_ w [58] → (cu_ w [58] + 2).toNat = (cu_ w [58]).toNat + 2 := fun h => by omega
 refine aj_ (fn := Tryz.f130) [] Tryz.func130 rfl rfl (by simp) fun C => ?_
 rw [ay_]
 simp only [Tryz.ntmps130, T7_, List.length_nil, Nat.reduceAdd, Nat.reduceSub, List.replicate_succ, List.replicate_zero, List.cons_append, List.nil_append, bu_]
 refine .seq (.rgn [] (by simp only [go_sem, seval, asO, ab_, aa_, a2_, a1_, cb_, hsw, bs_]; rfl) ?_ ?_)
 ·(first | trivial | (simp; done) | (simp [a7_]; done) | (simp [a7_]; omega))
 refine .seq (.rgn [] (by simp only [go_sem, seval, asO, ab_, aa_, a2_, a1_, cb_, hsw, bs_]; rfl) ?_ ?_)
 ·(first | trivial | (simp; done) | (simp [a7_]; done) | (simp [a7_]; omega))
 refine .seq (.block (.seq (.rgnS [12] [asO En { v := .s (w.getD 0 []) }] (by simp only [go_sem, seval, asO, ab_, aa_, a2_, a1_, cb_, hsw, bs_]; rfl) ?_ ?_)))
 ·exact zl_ w
 refine .condB (by simp only [go_sem, seval, asO, ab_, aa_, a2_, a1_, cb_, hsw, bs_]; rfl) (by simp only [go_sem, seval, asO, ab_, aa_, a2_, a1_, cb_, hsw, bs_]) (fun h5 => ?_) (fun h5 => ?_)
 ·refine .seq (.rgn [] (by simp only [go_sem, seval, asO, ab_, aa_, a2_, a1_, cb_, hsw, bs_]; rfl) ?_ ?_)
  ·(first | trivial | (simp; done) | (simp [a7_]; done) | (simp [a7_]; omega))
  refine .rgn [a8_ (d0_ (w.drop 1) (cz_ hw 1) (by simp; omega))] (by simp only [go_sem, seval, asO, ab_, aa_, a2_, a1_, cb_, hsw, bs_]; rfl) ?_ ?_
  ·simp only [T5_, T3_] at h5; simp [a7_, be_]; omega
  refine .seq (.rgn [] (by simp only [go_sem, seval, asO, ab_, aa_, a2_, a1_, cb_, hsw, bs_]; rfl) ?_ ?_)
  ·(first | trivial | (simp; done) | (simp [a7_]; done) | (simp [a7_]; omega))
  refine .ret ⟨.inr rfl, ?_⟩
  exact Out.plainL (by simp only [Tryz.results130]; rfl) (by simp only [az_, bc_, go_sem, seval, asO, ab_, aa_, a2_, a1_, cb_, hsw, bs_] <;> (split <;> rfl)) (by simp only [bb_, go_sem, seval, asO, ab_, aa_, a2_, a1_, cb_, hsw, bs_] <;> ((have e : ff_ w = ⟨2, [], ex (w.drop 1), E0⟩ := (by unfold ff_; rw [if_pos (by simpa [c4_] using h5)])); rw [e, at_]; simp [les, leV, ler, be_, gx_, gw_, gt_, cq_, de_])) (by simp only [go_sem, seval, asO, ab_, aa_, a2_, a1_, cb_, hsw, bs_])
 ·refine .seq (.rgnS [30] [asO En { v := .s (w.getD 0 []) }] (by simp only [go_sem, seval, asO, ab_, aa_, a2_, a1_, cb_, hsw, bs_]; rfl) ?_ ?_)
  ·exact zl_ w
  refine .condB (by simp only [go_sem, seval, asO, ab_, aa_, a2_, a1_, cb_, hsw, bs_]; rfl) (by simp only [go_sem, seval, asO, ab_, aa_, a2_, a1_, cb_, hsw, bs_]) (fun h23 => ?_) (fun h23 => ?_)
  ·refine .seq (.rgn [] (by simp only [go_sem, seval, asO, ab_, aa_, a2_, a1_, cb_, hsw, bs_]; rfl) ?_ ?_)
   ·(first | trivial | (simp; done) | (simp [a7_]; done) | (simp [a7_]; omega))
   refine .seq (.rgn [a8_ (s8_ w cb_ (by omega))] (by simp only [go_sem, seval, asO, ab_, aa_, a2_, a1_, cb_, hsw, bs_]; rfl) ?_ ?_)
   ·(first | trivial | (simp; done) | (simp [a7_]; done) | (simp [a7_]; omega))
   refine .seq (.rgn [] (by simp only [go_sem, seval, asO, ab_, aa_, a2_, a1_, cb_, hsw, bs_]; rfl) ?_ ?_)
   ·(first | trivial | (simp; done) | (simp [a7_]; done) | (simp [a7_]; omega))
   refine .condB (by simp only [go_sem, seval, asO, ab_, aa_, a2_, a1_, cb_, hsw, bs_]; rfl) (by simp only [go_sem, seval, asO, ab_, aa_, a2_, a1_, cb_, hsw, bs_]) (fun h44 => ?_) (fun h44 => ?_)
   ·refine .seq (.rgn [a8_ (d0_ ((w.take (cu_ w cb_).toNat).drop 1) (cz_ (hy_ hw _) 1) (by simp; omega))] (by simp only [go_sem, seval, asO, ab_, aa_, a2_, a1_, cb_, hsw, bs_]; rfl) ?_ ?_)
    ·simp only [T5_, T3_] at h44; simp [a7_]; omega
    refine .rgn [a8_ (d0_ (w.drop ((cu_ w cb_).toNat + 2)) (cz_ hw _) (by simp; omega))] (by simp only [go_sem, seval, asO, ab_, aa_, a2_, a1_, cb_, hsw, bs_, ht (by simp at h44; exact h44.1)]; rfl) ?_ ?_
    ·simp only [T5_, T3_] at h44; simp [a7_, be_]; omega
    refine .seq (.rgn [] (by simp only [go_sem, seval, asO, ab_, aa_, a2_, a1_, cb_, hsw, bs_]; rfl) ?_ ?_)
    ·(first | trivial | (simp; done) | (simp [a7_]; done) | (simp [a7_]; omega))
    refine .ret ⟨.inr rfl, ?_⟩
    exact Out.plainL (by simp only [Tryz.results130]; rfl) (by simp only [az_, bc_, go_sem, seval, asO, ab_, aa_, a2_, a1_, cb_, hsw, bs_] <;> (split <;> rfl)) (by simp only [bb_, go_sem, seval, asO, ab_, aa_, a2_, a1_, cb_, hsw, bs_] <;> ((have e : ff_ w = ⟨3, [], ex ((w.take (cu_ w cb_).toNat).drop 1), ex (w.drop ((cu_ w cb_).toNat + 2))⟩ := (by unfold ff_; rw [if_neg (by simpa [c4_] using h5), if_pos (by simpa [wIf] using h23), if_pos (by simpa [cb_] using h44)])); rw [e, at_]; simp [cb_, les, leV, ler, be_])) (by simp only [go_sem, seval, asO, ab_, aa_, a2_, a1_, cb_, hsw, bs_])
   ·refine .skip (.seq (.rgn [] (by simp only [go_sem, seval, asO, ab_, aa_, a2_, a1_, cb_, hsw, bs_]; rfl) ?_ ?_))
    ·(first | trivial | (simp; done) | (simp [a7_]; done) | (simp [a7_]; omega))
    refine .ret ⟨.inr rfl, ?_⟩
    exact Out.plainL (by simp only [Tryz.results130]; rfl) (by simp only [az_, bc_, go_sem, seval, asO, ab_, aa_, a2_, a1_, cb_, hsw, bs_] <;> (split <;> rfl)) (by simp only [bb_, go_sem, seval, asO, ab_, aa_, a2_, a1_, cb_, hsw, bs_] <;> ((have e : ff_ w = ⟨3, [], E0, E0⟩ := (by unfold ff_; rw [if_neg (by simpa [c4_] using h5), if_pos (by simpa [wIf] using h23), if_neg (by simpa [cb_] using h44)])); rw [e, at_]; simp [les, leV, ler, be_, gx_, gw_, gt_, cq_, de_])) (by simp only [go_sem, seval, asO, ab_, aa_, a2_, a1_, cb_, hsw, bs_])
  ·refine .seq (.rgn [] (by simp only [go_sem, seval, asO, ab_, aa_, a2_, a1_, cb_, hsw, bs_]; rfl) ?_ ?_)
   ·(first | trivial | (simp; done) | (simp [a7_]; done) | (simp [a7_]; omega))
   refine .condB (by simp only [go_sem, seval, asO, ab_, aa_, a2_, a1_, cb_, hsw, bs_]; rfl) (by simp only [go_sem, seval, asO, ab_, aa_, a2_, a1_, cb_, hsw, bs_]) (fun h62 => ?_) (fun h62 => ?_)
   ·refine .seq (.rgnD [] enM (by simp only [go_sem, seval, asO, ab_, aa_, a2_, a1_, cb_, hsw, bs_, cc_ (show 0 < w.length by simp at h62; omega)]; rfl) (by rfl) ?_ ?_)
    ·simp only [T3_] at h62; omega
    refine .rgn [a8_ (d0_ (w.drop 2) (cz_ hw 2) (by simp; omega))] (by simp only [go_sem, seval, asO, ab_, aa_, a2_, a1_, cb_, hsw, bs_]; rfl) ?_ ?_
    ·simp only [T3_] at h62; simp [a7_, be_]; omega
    refine .seq (.rgn [] (by simp only [go_sem, seval, asO, ab_, aa_, a2_, a1_, cb_, hsw, bs_]; rfl) ?_ ?_)
    ·(first | trivial | (simp; done) | (simp [a7_]; done) | (simp [a7_]; omega))
    refine .ret ⟨.inr rfl, ?_⟩
    exact Out.plainL (by simp only [Tryz.results130]; rfl) (by simp only [az_, bc_, go_sem, seval, asO, ab_, aa_, a2_, a1_, cb_, hsw, bs_] <;> (split <;> rfl)) (by simp only [bb_, go_sem, seval, asO, ab_, aa_, a2_, a1_, cb_, hsw, bs_] <;> ((have e : ff_ w = ⟨1, w.getD 0 [], ex (w.drop 2), E0⟩ := (by unfold ff_; rw [if_neg (by simpa [c4_] using h5), if_neg (by simpa [wIf] using h23), if_pos (by simp at h62; omega)])); rw [e, at_]; simp [les, leV, ler, be_, gx_, gw_, gt_, cq_, de_])) (by simp only [go_sem, seval, asO, ab_, aa_, a2_, a1_, cb_, hsw, bs_])
   ·refine .skip (.seq (.rgn [] (by simp only [go_sem, seval, asO, ab_, aa_, a2_, a1_, cb_, hsw, bs_]; rfl) ?_ ?_))
    ·(first | trivial | (simp; done) | (simp [a7_]; done) | (simp [a7_]; omega))
    refine .ret ⟨.inr rfl, ?_⟩
    exact Out.plainL (by simp only [Tryz.results130]; rfl) (by simp only [az_, bc_, go_sem, seval, asO, ab_, aa_, a2_, a1_, cb_, hsw, bs_] <;> (split <;> rfl)) (by simp only [bb_, go_sem, seval, asO, ab_, aa_, a2_, a1_, cb_, hsw, bs_] <;> ((have e : ff_ w = B0 := (by unfold ff_; rw [if_neg (by simpa [c4_] using h5), if_neg (by simpa [wIf] using h23), if_neg (by simp at h62; omega)])); rw [e, at_]; simp [B0, les, leV, ler, be_, gx_, gw_, gt_, cq_, de_])) (by simp only [go_sem, seval, asO, ab_, aa_, a2_, a1_, cb_, hsw, bs_])
end
section
set_option maxRecDepth 100000
set_option maxHeartbeats 8000000
theorem q5_ {w : List Str} (h : smW w) : sm (ex w) = true := by
 have hS := ((i_sm 500).1 1 ⟨w, false, 0⟩ h).1
 unfold ex fc_
 split
 ·split
  ·exact (show sm E0 = true by decide)
  ·exact hS
 ·exact (show sm E0 = true by decide)
theorem kn_ : ∀ (n : Nat) (l : Str) (c : Int) (t : List Tk), ez_ n l c = some t → ∀ x ∈ t, x.s.length ≤ l.length
 | 0, l, c, t, h => by simp [ez_] at h; subst h; intro x hx; cases hx
 | n + 1, [], c, t, h => by simp [ez_] at h; subst h; intro x hx; cases hx
 | n + 1, y :: l, c, t, h => by
  simp only [ez_] at h
  split at h
  ·intro x hx; have := kn_ n l _ t h x hx; simp only [T7_]; omega
  ·split at h
   ·cases h
   ·obtain ⟨u, hu, rfl⟩ := Option.map_eq_some_iff.1 h
    intro x hx
    rcases List.mem_cons.1 hx with rfl | hx
    ·simp only [List.length_take]; omega
    ·have h1 := kn_ n _ _ u hu x hx
     rw [List.length_drop] at h1; omega
theorem lt_ (s : Str) : smW (ck_ s) ∧ (ck_ s).length ≤ 120 := by
 refine ⟨?_, by unfold ck_; rw [List.length_map]; exact pu_ s⟩
 unfold ck_
 cases h : b4_ s with
 | none => intro w hw; simp at hw
 | some t =>
  unfold b4_ at h
  split at h
  ·cases h
  ·intro w hw
   simp only [Option.getD_some] at hw
   obtain ⟨x, hx, rfl⟩ := List.mem_map.1 hw
   have := kn_ _ _ _ _ h x hx
   omega
theorem tp_ {w : List Str} (h : smW w) (k : Nat) : (w.getD k []).length ≤ 281474976710656 := by
 rw [T8_]
 cases hk : w[k]? with
 | none => simp
 | some x => exact h x (List.mem_of_getElem? hk)
theorem a9_ (s : Sl) : cd_ (sC s) = true := by rw [ag_]; simp only [cd_, V.pure, ga_, Bool.and_self]
theorem agh_ {w : List Str} (h : smW w) : ea_ (rdS w) = true := by
 have g := tp_ h
 have e := fun k => q5_ (cz_ h k)
 have e0 : sm E0 = true := by decide
 unfold rdS
 split
 ·simp only [ea_, e, e0, Bool.and_true, T5_, T3_]; have := g 1; have := g 3; omega
 ·split
  ·simp only [ea_, e, e0, Bool.and_true]; rfl
  ·split
   ·split
    ·simp only [ea_, e, q5_ (cz_ (hy_ h _) 1), Bool.and_true]; rfl
    ·simp only [ea_, e0, Bool.and_true]; rfl
   ·decide
theorem aac_ {w : List Str} (h : smW w) : smb (ff_ w) = true := by
 have g := tp_ h
 have e := fun k => q5_ (cz_ h k)
 have e0 : sm E0 = true := by decide
 unfold ff_
 split
 ·simp only [smb, e, e0, Bool.and_true]; rfl
 ·split
  ·split
   ·simp only [smb, e, q5_ (cz_ (hy_ h _) 1), Bool.and_true]; rfl
   ·simp only [smb, e0, Bool.and_true]; rfl
  ·split
   ·simp only [smb, e, e0, Bool.and_true, T3_]; have := g 0; omega
   ·decide
theorem w3_ {w : List Str} (h : (decide ((w.length : Int) > 5) && w.getD 0 [] == [108, 101, 116]) = true) : 5 < w.length ∧ w.getD 0 [] = hh_ := by
 simp only [T5_, T3_, beq_iff_eq] at h; exact ⟨by omega, h.2⟩
theorem zm_ {w : List Str} (h : (decide ((w.length : Int) > 5) && w.getD 0 [] == [108, 101, 116]) = false) : ¬ (5 < w.length ∧ w.getD 0 [] = hh_) := fun q => by
 have : (decide ((w.length : Int) > 5) && w.getD 0 [] == [108, 101, 116]) = true := by simp only [T5_, T3_, beq_iff_eq]; exact ⟨by omega, q.2⟩
 rw [this] at h; cases h
theorem al6_ (w : List Str) (c : Bool) (hc : c = true → w ≠ []) : (c = true → c = true ∧ (0 : Int) < w.length ∧ ((bo_ w).getD 0 []).length = 1) ∧ (c = true → (c = true ∧ 1 ≤ ((bo_ w).getD 0 []).length) ∧ ({ v := ((bo_ w).getD 0 []).getD 0 .no } : Eff) = { v := .s (w.getD 0 []) }) := by
 cases w with
 | nil => exact ⟨fun h => absurd rfl (hc h), fun h => absurd rfl (hc h)⟩
 | cons x r => simp [bo_]
theorem y0_ (w : List Str) (hw : smW w) (hl : w.length ≤ 100000) : ACall En 74 [.sl false (bo_ w)] [] [.ag (sC (rdS w))] [] := by
 have hs := sz_ w bw_
 simp only [bw_] at hs
 have hsw : IntKind.i64.wrap (cu_ w [115, 97, 121] + 1) = cu_ w [115, 97, 121] + 1 := bi_ (by omega) (by omega)
 have ht : 0 < cu_ w [115, 97, 121] → (cu_ w [115, 97, 121] + 1).toNat = (cu_ w [115, 97, 121]).toNat + 1 := fun h => by omega
 refine aj_ (fn := Tryz.f74) [] Tryz.func74 rfl rfl (by simp) fun C => ?_
 rw [ay_]
 simp only [Tryz.ntmps74, T7_, List.length_nil, Nat.reduceAdd, Nat.reduceSub, List.replicate_succ, List.replicate_zero, List.cons_append, List.nil_append, bu_]
 refine .seq (.rgn [] (by simp only [go_sem, seval, asO, ab_, aa_, a2_, a1_, bw_, hsw, a9_]; rfl) ?_ ?_)
 ·(first | trivial | (simp; done) | (simp [a7_]; done) | (simp [a7_]; omega))
 refine .seq (.rgn [] (by simp only [go_sem, seval, asO, ab_, aa_, a2_, a1_, bw_, hsw, a9_]; rfl) ?_ ?_)
 ·(first | trivial | (simp; done) | (simp [a7_]; done) | (simp [a7_]; omega))
 refine .seq (.block (.seq (.rgnS [12] [asO En { v := .s (w.getD 0 []) }] (by simp only [go_sem, seval, asO, ab_, aa_, a2_, a1_, bw_, hsw, a9_]; rfl) ?_ ?_)))
 ·exact al6_ w _ (fun h e => by simp [e] at h)
 refine .condB (by simp only [go_sem, seval, asO, ab_, aa_, a2_, a1_, bw_, hsw, a9_]; rfl) (by simp only [go_sem, seval, asO, ab_, aa_, a2_, a1_, bw_, hsw, a9_]) (fun h5 => ?_) (fun h5 => ?_)
 ·refine .seq (.rgnD [] enM (by simp only [go_sem, seval, asO, ab_, aa_, a2_, a1_, bw_, hsw, a9_, cc_ (show 1 < w.length by have := w3_ h5; omega), cc_ (show 3 < w.length by have := w3_ h5; omega)]; rfl) (by rfl) ?_ ?_)
  ·have := w3_ h5; (first | omega | (simp [a7_, b6_]; omega))
  refine .rgn [a8_ (d0_ (w.drop 5) (cz_ hw 5) (by simp; omega))] (by simp only [go_sem, seval, asO, ab_, aa_, a2_, a1_, bw_, hsw, a9_]; rfl) ?_ ?_
  ·have := w3_ h5; simp [a7_, be_]; omega
  refine .seq (.rgn [] (by simp only [go_sem, seval, asO, ab_, aa_, a2_, a1_, bw_, hsw, a9_]; rfl) ?_ ?_)
  ·(first | trivial | (simp; done) | (simp [a7_]; done) | (simp [a7_]; omega))
  refine .ret ⟨.inr rfl, ?_⟩
  exact Out.plainL (by simp only [Tryz.results74]; rfl) (by simp only [az_, bc_, go_sem, seval, asO, ab_, aa_, a2_, a1_, bw_, hsw, a9_] <;> (split <;> rfl)) (by simp only [bb_, go_sem, seval, asO, ab_, aa_, a2_, a1_, bw_, hsw, a9_] <;> ((have e : rdS w = ⟨1, w.getD 1 [], w.getD 3 [], ex (w.drop 5), E0⟩ := (by unfold rdS; rw [if_pos (w3_ h5)])); rw [e, ag_]; simp [les, leV, ler, be_, gx_, gw_, gt_, cq_, de_])) (by simp only [go_sem, seval, asO, ab_, aa_, a2_, a1_, bw_, hsw, a9_])
 ·refine .seq (.rgnS [38] [asO En { v := .s (w.getD 0 []) }] (by simp only [go_sem, seval, asO, ab_, aa_, a2_, a1_, bw_, hsw, a9_]; rfl) ?_ ?_)
  ·exact zl_ w
  refine .condB (by simp only [go_sem, seval, asO, ab_, aa_, a2_, a1_, bw_, hsw, a9_]; rfl) (by simp only [go_sem, seval, asO, ab_, aa_, a2_, a1_, bw_, hsw, a9_]) (fun h31 => ?_) (fun h31 => ?_)
  ·refine .seq (.rgn [] (by simp only [go_sem, seval, asO, ab_, aa_, a2_, a1_, bw_, hsw, a9_]; rfl) ?_ ?_)
   ·(first | trivial | (simp; done) | (simp [a7_]; done) | (simp [a7_]; omega))
   refine .rgn [a8_ (d0_ (w.drop 1) (cz_ hw 1) (by simp; omega))] (by simp only [go_sem, seval, asO, ab_, aa_, a2_, a1_, bw_, hsw, a9_]; rfl) ?_ ?_
   ·simp only [T5_, T3_] at h31; simp [a7_, be_]; omega
   refine .seq (.rgn [] (by simp only [go_sem, seval, asO, ab_, aa_, a2_, a1_, bw_, hsw, a9_]; rfl) ?_ ?_)
   ·(first | trivial | (simp; done) | (simp [a7_]; done) | (simp [a7_]; omega))
   refine .ret ⟨.inr rfl, ?_⟩
   exact Out.plainL (by simp only [Tryz.results74]; rfl) (by simp only [az_, bc_, go_sem, seval, asO, ab_, aa_, a2_, a1_, bw_, hsw, a9_] <;> (split <;> rfl)) (by simp only [bb_, go_sem, seval, asO, ab_, aa_, a2_, a1_, bw_, hsw, a9_] <;> ((have e : rdS w = ⟨2, [], [], ex (w.drop 1), E0⟩ := (by unfold rdS; rw [if_neg (zm_ h5), if_pos (by simpa [bw_] using h31)])); rw [e, ag_]; simp [les, leV, ler, be_, gx_, gw_, gt_, cq_, de_])) (by simp only [go_sem, seval, asO, ab_, aa_, a2_, a1_, bw_, hsw, a9_])
  ·refine .seq (.rgnS [56] [asO En { v := .s (w.getD 0 []) }] (by simp only [go_sem, seval, asO, ab_, aa_, a2_, a1_, bw_, hsw, a9_]; rfl) ?_ ?_)
   ·exact zl_ w
   refine .condB (by simp only [go_sem, seval, asO, ab_, aa_, a2_, a1_, bw_, hsw, a9_]; rfl) (by simp only [go_sem, seval, asO, ab_, aa_, a2_, a1_, bw_, hsw, a9_]) (fun h49 => ?_) (fun h49 => ?_)
   ·refine .seq (.rgn [] (by simp only [go_sem, seval, asO, ab_, aa_, a2_, a1_, bw_, hsw, a9_]; rfl) ?_ ?_)
    ·(first | trivial | (simp; done) | (simp [a7_]; done) | (simp [a7_]; omega))
    refine .seq (.rgn [a8_ (s8_ w bw_ (by omega))] (by simp only [go_sem, seval, asO, ab_, aa_, a2_, a1_, bw_, hsw, a9_]; rfl) ?_ ?_)
    ·(first | trivial | (simp; done) | (simp [a7_]; done) | (simp [a7_]; omega))
    refine .seq (.rgn [] (by simp only [go_sem, seval, asO, ab_, aa_, a2_, a1_, bw_, hsw, a9_]; rfl) ?_ ?_)
    ·(first | trivial | (simp; done) | (simp [a7_]; done) | (simp [a7_]; omega))
    refine .condB (by simp only [go_sem, seval, asO, ab_, aa_, a2_, a1_, bw_, hsw, a9_]; rfl) (by simp only [go_sem, seval, asO, ab_, aa_, a2_, a1_, bw_, hsw, a9_]) (fun h63 => ?_) (fun h63 => ?_)
    ·refine .seq (.rgn [a8_ (d0_ ((w.take (cu_ w bw_).toNat).drop 1) (cz_ (hy_ hw _) 1) (by simp; omega))] (by simp only [go_sem, seval, asO, ab_, aa_, a2_, a1_, bw_, hsw, a9_]; rfl) ?_ ?_)
     ·simp only [T3_] at h63; simp [a7_]; omega
     refine .rgn [a8_ (d0_ (w.drop ((cu_ w bw_).toNat + 1)) (cz_ hw _) (by simp; omega))] (by simp only [go_sem, seval, asO, ab_, aa_, a2_, a1_, bw_, hsw, a9_, ht (by simpa using h63)]; rfl) ?_ ?_
     ·simp only [T3_] at h63; simp [a7_, be_]; omega
     refine .seq (.rgn [] (by simp only [go_sem, seval, asO, ab_, aa_, a2_, a1_, bw_, hsw, a9_]; rfl) ?_ ?_)
     ·(first | trivial | (simp; done) | (simp [a7_]; done) | (simp [a7_]; omega))
     refine .ret ⟨.inr rfl, ?_⟩
     exact Out.plainL (by simp only [Tryz.results74]; rfl) (by simp only [az_, bc_, go_sem, seval, asO, ab_, aa_, a2_, a1_, bw_, hsw, a9_] <;> (split <;> rfl)) (by simp only [bb_, go_sem, seval, asO, ab_, aa_, a2_, a1_, bw_, hsw, a9_] <;> ((have e : rdS w = ⟨3, [], [], ex ((w.take (cu_ w bw_).toNat).drop 1), ex (w.drop ((cu_ w bw_).toNat + 1))⟩ := (by unfold rdS; rw [if_neg (zm_ h5), if_neg (by simpa [bw_] using h31), if_pos (by simpa [di_] using h49), if_pos (by simpa [bw_] using h63)])); rw [e, ag_]; simp [bw_, les, leV, ler, be_])) (by simp only [go_sem, seval, asO, ab_, aa_, a2_, a1_, bw_, hsw, a9_])
    ·refine .skip (.seq (.rgn [] (by simp only [go_sem, seval, asO, ab_, aa_, a2_, a1_, bw_, hsw, a9_]; rfl) ?_ ?_))
     ·(first | trivial | (simp; done) | (simp [a7_]; done) | (simp [a7_]; omega))
     refine .ret ⟨.inr rfl, ?_⟩
     exact Out.plainL (by simp only [Tryz.results74]; rfl) (by simp only [az_, bc_, go_sem, seval, asO, ab_, aa_, a2_, a1_, bw_, hsw, a9_] <;> (split <;> rfl)) (by simp only [bb_, go_sem, seval, asO, ab_, aa_, a2_, a1_, bw_, hsw, a9_] <;> ((have e : rdS w = ⟨3, [], [], E0, E0⟩ := (by unfold rdS; rw [if_neg (zm_ h5), if_neg (by simpa [bw_] using h31), if_pos (by simpa [di_] using h49), if_neg (by simpa [bw_] using h63)])); rw [e, ag_]; simp [les, leV, ler, be_, gx_, gw_, gt_, cq_, de_])) (by simp only [go_sem, seval, asO, ab_, aa_, a2_, a1_, bw_, hsw, a9_])
   ·refine .skip (.seq (.rgn [] (by simp only [go_sem, seval, asO, ab_, aa_, a2_, a1_, bw_, hsw, a9_]; rfl) ?_ ?_))
    ·(first | trivial | (simp; done) | (simp [a7_]; done) | (simp [a7_]; omega))
    refine .ret ⟨.inr rfl, ?_⟩
    exact Out.plainL (by simp only [Tryz.results74]; rfl) (by simp only [az_, bc_, go_sem, seval, asO, ab_, aa_, a2_, a1_, bw_, hsw, a9_] <;> (split <;> rfl)) (by simp only [bb_, go_sem, seval, asO, ab_, aa_, a2_, a1_, bw_, hsw, a9_] <;> ((have e : rdS w = S0 := (by unfold rdS; rw [if_neg (zm_ h5), if_neg (by simpa [bw_] using h31), if_neg (by simpa [di_] using h49)])); rw [e, ag_]; simp [S0, les, leV, ler, be_, gx_, gw_, gt_, cq_, de_])) (by simp only [go_sem, seval, asO, ab_, aa_, a2_, a1_, bw_, hsw, a9_])
theorem o2_ {line : Str} (h : ¬ ((b4_ line).isSome = true ∧ sok (rdS (ck_ line)) = true ∧ ec_ (rdS (ck_ line)) = line)) : cw_ line = none := by
 unfold cw_ ck_ at *
 cases ht : b4_ line with
 | none => rfl
 | some ts =>
  rw [ht] at h
  simp only [Option.getD_some] at h
  dsimp only
  rw [if_neg]
  rintro ⟨h1, h2⟩
  exact h ⟨rfl, h1, by unfold ec_; rw [if_pos h1]; exact h2⟩
theorem pp_ {line : Str} (h : (b4_ line).isSome = true) (h1 : sok (rdS (ck_ line)) = true) (h2 : ec_ (rdS (ck_ line)) = line) : cw_ line = some (rdS (ck_ line)) := by
 unfold cw_ ck_ at *
 cases ht : b4_ line with
 | none => rw [ht] at h; cases h
 | some ts =>
  rw [ht] at h1 h2
  simp only [Option.getD_some] at h1 h2 ⊢
  rw [if_pos ⟨h1, by unfold ec_ at h2; rw [if_pos h1] at h2; exact h2⟩]
theorem nk_ (line : Str) (hl : line.length ≤ 281474976710656) : ACall En 16 [.s line] [] [.ag (sC ((cw_ line).getD S0)), .b (cw_ line).isSome] [] := by
 obtain ⟨w1, w2⟩ := lt_ line
 have hs := agh_ w1
 refine aj_ (fn := Tryz.f16) [] Tryz.func16 rfl rfl (by simp) fun C => ?_
 rw [ay_]
 simp only [Tryz.ntmps16, T7_, List.length_nil, Nat.reduceAdd, Nat.reduceSub, List.replicate_succ, List.replicate_zero, List.cons_append, List.nil_append, bu_]
 refine .seq (.rgn [] (by simp only [go_sem, seval, aa_, a9_, ag_]; rfl) ?_ ?_)
 ·first | trivial | simp
 refine .seq (.rgn [a8_ (sn_ line hl)] (by simp only [go_sem, seval, aa_, a9_, ag_]; rfl) ?_ ?_)
 ·first | trivial | simp
 refine .seq (.rgn [a8_ (y0_ (ck_ line) w1 (by omega))] (by simp only [go_sem, seval, aa_, a9_, ag_]; rfl) ?_ ?_)
 ·first | trivial | simp
 refine .seq (.seq (.rgn [a8_ (mz_ (rdS (ck_ line)) hs), a8_ (w6_ (rdS (ck_ line)) hs)] (by simp only [go_sem, seval, aa_, a9_, ag_]; rfl) ?_ ?_))
 ·first | trivial | simp
 refine .condB (by simp only [go_sem, seval, aa_, a9_, ag_]; rfl) (by simp only [go_sem, seval, aa_, a9_, ag_]) (fun h26 => ?_) (fun h26 => ?_)
 ·refine .seq (.rgn [] (by simp only [go_sem, seval, aa_, a9_, ag_]; rfl) ?_ ?_)
  ·first | trivial | simp
  refine .ret ⟨.inr rfl, ?_⟩
  exact Out.plainL (by simp only [Tryz.results16]; rfl) (by simp only [az_, bc_, go_sem, seval, aa_, a9_, ag_] <;> (split <;> rfl)) (by simp only [bb_, go_sem, seval, aa_, a9_, ag_] <;> (rw [o2_ (by intro q; simp [q.1, q.2.1, q.2.2] at h26)]; simp [S0, les, leV, ler, be_, gx_, gw_, gt_, cq_, de_])) (by simp only [go_sem, seval, aa_, a9_, ag_])
 ·refine .skip (.seq (.rgn [] (by simp only [go_sem, seval, aa_, a9_, ag_]; rfl) ?_ ?_))
  ·first | trivial | simp
  refine .ret ⟨.inr rfl, ?_⟩
  exact Out.plainL (by simp only [Tryz.results16]; rfl) (by simp only [az_, bc_, go_sem, seval, aa_, a9_, ag_] <;> (split <;> rfl)) (by simp only [bb_, go_sem, seval, aa_, a9_, ag_] <;> (rw [pp_ (by simp at h26; exact h26.1.1) (by simp at h26; exact h26.1.2) (by simp at h26; exact h26.2)]; simp [les, leV, ler, be_])) (by simp only [go_sem, seval, aa_, a9_, ag_])
theorem pe_ {line : Str} (h : ¬ ((b4_ line).isSome = true ∧ bok (ff_ (ck_ line)) = true ∧ wk_ (ff_ (ck_ line)) = line)) : fq_ line = none := by
 unfold fq_ ck_ at *
 cases ht : b4_ line with
 | none => rfl
 | some ts =>
  rw [ht] at h
  simp only [Option.getD_some] at h
  dsimp only
  rw [if_neg]
  rintro ⟨h1, h2⟩
  exact h ⟨rfl, h1, by unfold wk_; rw [if_pos h1]; exact h2⟩
theorem qg_ {line : Str} (h : (b4_ line).isSome = true) (h1 : bok (ff_ (ck_ line)) = true) (h2 : wk_ (ff_ (ck_ line)) = line) : fq_ line = some (ff_ (ck_ line)) := by
 unfold fq_ ck_ at *
 cases ht : b4_ line with
 | none => rw [ht] at h; cases h
 | some ts =>
  rw [ht] at h1 h2
  simp only [Option.getD_some] at h1 h2 ⊢
  rw [if_pos ⟨h1, by unfold wk_ at h2; rw [if_pos h1] at h2; exact h2⟩]
theorem wp_ (line : Str) (hl : line.length ≤ 281474976710656) : ACall En 72 [.s line] [] [.ag (bC ((fq_ line).getD B0)), .b (fq_ line).isSome] [] := by
 obtain ⟨w1, w2⟩ := lt_ line
 have hs := aac_ w1
 refine aj_ (fn := Tryz.f72) [] Tryz.func72 rfl rfl (by simp) fun C => ?_
 rw [ay_]
 simp only [Tryz.ntmps72, T7_, List.length_nil, Nat.reduceAdd, Nat.reduceSub, List.replicate_succ, List.replicate_zero, List.cons_append, List.nil_append, bu_]
 refine .seq (.rgn [] (by simp only [go_sem, seval, aa_, bs_, at_]; rfl) ?_ ?_)
 ·first | trivial | simp
 refine .seq (.rgn [a8_ (sn_ line hl)] (by simp only [go_sem, seval, aa_, bs_, at_]; rfl) ?_ ?_)
 ·first | trivial | simp
 refine .seq (.rgn [a8_ (yf_ (ck_ line) w1 (by omega))] (by simp only [go_sem, seval, aa_, bs_, at_]; rfl) ?_ ?_)
 ·first | trivial | simp
 refine .seq (.seq (.rgn [a8_ (m7_ (ff_ (ck_ line)) hs), a8_ (wj_ (ff_ (ck_ line)) hs)] (by simp only [go_sem, seval, aa_, bs_, at_]; rfl) ?_ ?_))
 ·first | trivial | simp
 refine .condB (by simp only [go_sem, seval, aa_, bs_, at_]; rfl) (by simp only [go_sem, seval, aa_, bs_, at_]) (fun h26 => ?_) (fun h26 => ?_)
 ·refine .seq (.rgn [] (by simp only [go_sem, seval, aa_, bs_, at_]; rfl) ?_ ?_)
  ·first | trivial | simp
  refine .ret ⟨.inr rfl, ?_⟩
  exact Out.plainL (by simp only [Tryz.results72]; rfl) (by simp only [az_, bc_, go_sem, seval, aa_, bs_, at_] <;> (split <;> rfl)) (by simp only [bb_, go_sem, seval, aa_, bs_, at_] <;> (rw [pe_ (by intro q; simp [q.1, q.2.1, q.2.2] at h26)]; simp [B0, les, leV, ler, be_, gx_, gw_, gt_, cq_, de_])) (by simp only [go_sem, seval, aa_, bs_, at_])
 ·refine .skip (.seq (.rgn [] (by simp only [go_sem, seval, aa_, bs_, at_]; rfl) ?_ ?_))
  ·first | trivial | simp
  refine .ret ⟨.inr rfl, ?_⟩
  exact Out.plainL (by simp only [Tryz.results72]; rfl) (by simp only [az_, bc_, go_sem, seval, aa_, bs_, at_] <;> (split <;> rfl)) (by simp only [bb_, go_sem, seval, aa_, bs_, at_] <;> (rw [qg_ (by simp at h26; exact h26.1.1) (by simp at h26; exact h26.1.2) (by simp at h26; exact h26.2)]; simp [les, leV, ler, be_])) (by simp only [go_sem, seval, aa_, bs_, at_])
end
end Go.Proofs.YtcigkafioinfoaaGreatDoor
