/- Lines are read: the program's. Conditions: none. -/
import Derived.Test.YtpikbndepapbhabGreatDoorKt
import Derived.Test.YtpikbndepapbhabGreatDoorKn
import Derived.Test.YtpikbndepapbhabGreatDoorKl
set_option linter.unusedVariables false
set_option linter.unusedSimpArgs false
namespace Go.Proofs.YtpikbndepapbhabGreatDoor
section
set_option maxRecDepth 100000
set_option maxHeartbeats 8000000
theorem a7_ (l : List Str) (k : Nat) : (bi_ l).drop k = bi_ (l.drop k) := by simp [bi_, List.map_drop]
theorem a6_ (l : List Str) (k : Nat) : (bi_ l).take k = bi_ (l.take k) := by simp [bi_, List.map_take]
theorem dx_ {l : List Str} (h : smW l) (k : Nat) : smW (l.drop k) := fun w hw => h w (List.mem_of_mem_drop hw)
theorem j5_ {l : List Str} (h : smW l) (k : Nat) : smW (l.take k) := fun w hw => h w (List.mem_of_mem_take hw)
def cl_ (s : Str) : List Str := ((b4_ s).getD []).map (·.s)
theorem lj_ : ∀ (n : Nat) (l : Str) (c : Int) (t : List Tk), ef_ n l c = some t → t.length ≤ l.length
 | 0, l, c, t, h => by simp [ef_] at h; subst h; simp
 | n + 1, [], c, t, h => by simp [ef_] at h; subst h; simp
 | n + 1, x :: l, c, t, h => by
  simp only [ef_] at h
  split at h
  ·have := lj_ n l _ t h; simp only [T7_]; omega
  ·split at h
   ·cases h
   ·obtain ⟨u, hu, rfl⟩ := Option.map_eq_some_iff.1 h
    have h1 := lj_ n _ _ u hu
    have h2 := ka_ (x :: l)
    rw [List.length_drop] at h1
    simp only [T7_] at h1 ⊢; omega
theorem om_ (s : Str) : ((b4_ s).getD []).length ≤ 120 := by
 cases h : b4_ s with
 | none => simp
 | some t =>
  unfold b4_ at h
  split at h
  ·cases h
  ·have := lj_ _ _ _ _ h; simp only [Option.getD_some]; omega
theorem ay_ (b : Bl) : cw_ (bC b) = true := by rw [ae_]; simp only [cw_, V.pure, fy_, Bool.and_self]
theorem xf_ (l : List Str) (s : Str) : -1 ≤ co_ l s ∧ co_ l s < l.length := by
 unfold co_
 split
 ·rename_i h
  have := List.idxOf_lt_length_iff.2 h
  omega
 ·omega
theorem y6_ (s : Str) (hs : s.length ≤ 281474976710656) : ACall En 68 [.s s] [] [.sl false (bi_ (cl_ s)), .b (b4_ s).isSome] [] := by
 have T := zu_ s hs
 have hb := om_ s
 unfold cl_
 generalize (b4_ s).getD [] = ts at *
 have hp : ∀ k, cd_ (i8_ (bi_ (ts.map (·.s))) [.s []] k) = true := fun k => qi_ (aa_ _) rfl
 have hll : (bi_ (ts.map (·.s))).length = ts.length := by simp [bi_]
 refine al_ (fn := Tryz.f68) [] Tryz.func68 rfl rfl (by simp) fun C => ?_
 rw [aw_]
 simp only [Tryz.ntmps68, T7_, List.length_nil, Nat.reduceAdd, Nat.reduceSub, List.replicate_succ, List.replicate_zero, List.cons_append, List.nil_append, bo_]
 refine .seq (.rgn [] (by simp only [go_sem, seval, ax_, as_, hp, bb_, bq_, hll]; rfl) ?_ ?_)
 ·first | trivial | simp
 refine .seq (.rgn [a1_ T] (by simp only [go_sem, seval, ax_, as_, hp, bb_, bq_, hll]; rfl) ?_ ?_)
 ·first | trivial | simp
 refine .seq (.rgn [] (by simp only [go_sem, seval, ax_, as_, hp, bb_, bq_, hll]; rfl) ?_ ?_)
 ·simp; omega
 refine .seq (.seq (.rgn [] (by simp only [go_sem, seval, ax_, as_, hp, bb_, bq_, hll]; rfl) ?_ ?_))
 ·first | trivial | simp
 refine .block (.loopK (fun k : Nat => ⟨[.no, .no, .no, .no, .no, .b (b4_ s).isSome, .ow 26 1 0 ts.length, .no, .no, .no, .no, .no, .no, .no, .no, .no, .no, .sl false (tkR ts), .i .i64 ts.length, .i .i64 k, .no, .no, .no, .no, .no, .no, .no, .no, .no, .no, .no, .no], bc_ [(26, ⟨9, 1, i8_ (bi_ (ts.map (·.s))) [.s []] k⟩)], us [26]⟩) (fun k : Nat => k ≤ ts.length) (fun k : Nat => ts.length - k) (0) ?_ ?_ (fun k hI => ?_))
 ·simp
 ·exact Can.weak (Weak.lit (by simp only [go_sem, seval, ax_, as_, hp, bb_, bq_, hll, aq_, leV, ao_, ap_, V.inn, us, T9_, Ta_] <;> (simp)) (by simp only [go_sem, seval, ax_, as_, hp, bb_, bq_, hll, aq_, leV, ao_, ap_, V.inn, us, T9_, Ta_]) (by simp only [go_sem, seval, ax_, as_, hp, bb_, bq_, hll, aq_, leV, ao_, ap_, V.inn, us, T9_, Ta_] <;> (simp [qg_, hll])))
 refine .seq (.rgn [] (by simp only [go_sem, seval, ax_, as_, hp, bb_, bq_, hll]; rfl) ?_ ?_)
 ·first | trivial | simp
 refine .seq (.condB (by simp only [go_sem, seval, ax_, as_, hp, bb_, bq_, hll]; rfl) (by simp only [go_sem, seval, ax_, as_, hp, bb_, bq_, hll]) (fun h20 => ?_) (fun h20 => ?_))
 ·refine .skip (.seq (.block (.seq (.rgn [] (by simp only [go_sem, seval, ax_, as_, hp, bb_, bq_, hll, x0_ (show k < ts.length by simpa using h20)]; rfl) ?_ ?_))))
  ·simp at h20; simp; omega
  refine .rgn [] (by simp only [go_sem, seval, ax_, as_, hp, bb_, bq_, hll]; rfl) ?_ ?_
  ·simp at h20; simp; omega
  refine .rgn [] (by simp only [go_sem, seval, ax_, as_, hp, bb_, bq_, hll]; rfl) ?_ ?_
  ·first | trivial | simp
  refine Exists.intro (k + 1) ⟨?_, ?_, ?_⟩
  ·simp at h20; omega
  ·simp at h20; omega
  exact Can.weak (Weak.lit (by simp only [go_sem, seval, ax_, as_, hp, bb_, bq_, hll, aq_, leV, ao_, ap_, V.inn, us, T9_, Ta_] <;> (rw [bd_ (by simp at h20; omega) (by simp at h20; omega)]; simp)) (by simp only [go_sem, seval, ax_, as_, hp, bb_, bq_, hll, aq_, leV, ao_, ap_, V.inn, us, T9_, Ta_]) (by simp only [go_sem, seval, ax_, as_, hp, bb_, bq_, hll, aq_, leV, ao_, ap_, V.inn, us, T9_, Ta_] <;> ((rw [← oh_ (by rw [hll]; simpa using h20), cj_ (by simpa using h20)]; simp [T8_, T6_ (show k < ts.length by simpa using h20)]))))
 ·refine .exit (.seq (.rgn [] (by simp only [go_sem, seval, ax_, as_, hp, bb_, bq_, hll]; rfl) ?_ ?_))
  ·first | trivial | simp
  refine .frz 26 (by simp only [go_sem, seval, ax_, as_, hp, bb_, bq_, hll]; rfl) (by simp only [go_sem, seval, ax_, as_, hp, bb_, bq_, hll]) (by simp only [go_sem, seval, ax_, as_, hp, bb_, bq_, hll]; rfl) (by simp only [go_sem, seval, ax_, as_, hp, bb_, bq_, hll]; rfl) ?_
  refine .ret ⟨.inr rfl, ?_⟩
  exact Out.plain (by simp only [Tryz.results68]; rfl) (by simp only [av_, a3_, go_sem, seval, ax_, as_, hp, bb_, bq_, hll] <;> (split <;> rfl)) (by simp only [a2_, go_sem, seval, ax_, as_, hp, bb_, bq_, hll] <;> (simp at h20; rw [tn_ (by omega)]; simp [← hll, T1_, peel])) (by simp only [go_sem, seval, ax_, as_, hp, bb_, bq_, hll])
theorem agl_ (w : List Str) : (decide ((w.length : Int) > 0) = true → decide ((w.length : Int) > 0) = true ∧ (0 : Int) < w.length ∧ ((bi_ w).getD 0 []).length = 1) ∧ (decide ((w.length : Int) > 0) = true → (decide ((w.length : Int) > 0) = true ∧ 1 ≤ ((bi_ w).getD 0 []).length) ∧ ({ v := ((bi_ w).getD 0 []).getD 0 .no } : Eff) = { v := .s (w.getD 0 []) }) := by
 cases w with
 | nil => simp
 | cons x r => simp [bi_]
theorem vb_ (w : List Str) (hw : smW w) (hl : w.length ≤ 100000) : ACall En 69 [.sl false (bi_ w)] [] [.ag (bC (eg_ w))] [] := by
 have hs := xf_ w br_
 simp only [br_] at hs
 have hsw : IntKind.i64.wrap (co_ w [58] + 2) = co_ w [58] + 2 := bd_ (by omega) (by omega)
 have ht : 0 < co_ w [58] → (co_ w [58] + 2).toNat = (co_ w [58]).toNat + 2 := fun h => by omega
 refine al_ (fn := Tryz.f69) [] Tryz.func69 rfl rfl (by simp) fun C => ?_
 rw [aw_]
 simp only [Tryz.ntmps69, T7_, List.length_nil, Nat.reduceAdd, Nat.reduceSub, List.replicate_succ, List.replicate_zero, List.cons_append, List.nil_append, bo_]
 refine .seq (.rgn [] (by simp only [go_sem, seval, asO, ab_, aa_, a7_, a6_, br_, hsw, ay_]; rfl) ?_ ?_)
 ·(first | trivial | (simp; done) | (simp [a9_]; done) | (simp [a9_]; omega))
 refine .seq (.rgn [] (by simp only [go_sem, seval, asO, ab_, aa_, a7_, a6_, br_, hsw, ay_]; rfl) ?_ ?_)
 ·(first | trivial | (simp; done) | (simp [a9_]; done) | (simp [a9_]; omega))
 refine .seq (.block (.seq (.rgnS [12] [asO En { v := .s (w.getD 0 []) }] (by simp only [go_sem, seval, asO, ab_, aa_, a7_, a6_, br_, hsw, ay_]; rfl) ?_ ?_)))
 ·exact agl_ w
 refine .condB (by simp only [go_sem, seval, asO, ab_, aa_, a7_, a6_, br_, hsw, ay_]; rfl) (by simp only [go_sem, seval, asO, ab_, aa_, a7_, a6_, br_, hsw, ay_]) (fun h5 => ?_) (fun h5 => ?_)
 ·refine .seq (.rgn [] (by simp only [go_sem, seval, asO, ab_, aa_, a7_, a6_, br_, hsw, ay_]; rfl) ?_ ?_)
  ·(first | trivial | (simp; done) | (simp [a9_]; done) | (simp [a9_]; omega))
  refine .rgn [a1_ (gr_ (w.drop 1) (dx_ hw 1) (by simp; omega))] (by simp only [go_sem, seval, asO, ab_, aa_, a7_, a6_, br_, hsw, ay_]; rfl) ?_ ?_
  ·simp only [T5_, T3_] at h5; simp [a9_, ba_]; omega
  refine .seq (.rgn [] (by simp only [go_sem, seval, asO, ab_, aa_, a7_, a6_, br_, hsw, ay_]; rfl) ?_ ?_)
  ·(first | trivial | (simp; done) | (simp [a9_]; done) | (simp [a9_]; omega))
  refine .ret ⟨.inr rfl, ?_⟩
  exact Out.plainL (by simp only [Tryz.results69]; rfl) (by simp only [av_, a3_, go_sem, seval, asO, ab_, aa_, a7_, a6_, br_, hsw, ay_] <;> (split <;> rfl)) (by simp only [a2_, go_sem, seval, asO, ab_, aa_, a7_, a6_, br_, hsw, ay_] <;> ((have e : eg_ w = ⟨2, [], ex (w.drop 1), E0⟩ := (by unfold eg_; rw [if_pos (by simpa [b9_] using h5)])); rw [e, ae_]; simp [les, leV, ler, ba_, gz_, gx_, g0_, cy_, dn_])) (by simp only [go_sem, seval, asO, ab_, aa_, a7_, a6_, br_, hsw, ay_])
 ·refine .seq (.rgnS [30] [asO En { v := .s (w.getD 0 []) }] (by simp only [go_sem, seval, asO, ab_, aa_, a7_, a6_, br_, hsw, ay_]; rfl) ?_ ?_)
  ·exact agl_ w
  refine .condB (by simp only [go_sem, seval, asO, ab_, aa_, a7_, a6_, br_, hsw, ay_]; rfl) (by simp only [go_sem, seval, asO, ab_, aa_, a7_, a6_, br_, hsw, ay_]) (fun h23 => ?_) (fun h23 => ?_)
  ·refine .seq (.rgn [] (by simp only [go_sem, seval, asO, ab_, aa_, a7_, a6_, br_, hsw, ay_]; rfl) ?_ ?_)
   ·(first | trivial | (simp; done) | (simp [a9_]; done) | (simp [a9_]; omega))
   refine .seq (.rgn [a1_ (w1_ w br_ (by omega))] (by simp only [go_sem, seval, asO, ab_, aa_, a7_, a6_, br_, hsw, ay_]; rfl) ?_ ?_)
   ·(first | trivial | (simp; done) | (simp [a9_]; done) | (simp [a9_]; omega))
   refine .seq (.rgn [] (by simp only [go_sem, seval, asO, ab_, aa_, a7_, a6_, br_, hsw, ay_]; rfl) ?_ ?_)
   ·(first | trivial | (simp; done) | (simp [a9_]; done) | (simp [a9_]; omega))
   refine .condB (by simp only [go_sem, seval, asO, ab_, aa_, a7_, a6_, br_, hsw, ay_]; rfl) (by simp only [go_sem, seval, asO, ab_, aa_, a7_, a6_, br_, hsw, ay_]) (fun h44 => ?_) (fun h44 => ?_)
   ·refine .seq (.rgn [a1_ (gr_ ((w.take (co_ w br_).toNat).drop 1) (dx_ (j5_ hw _) 1) (by simp; omega))] (by simp only [go_sem, seval, asO, ab_, aa_, a7_, a6_, br_, hsw, ay_]; rfl) ?_ ?_)
    ·simp only [T5_, T3_] at h44; simp [a9_]; omega
    refine .rgn [a1_ (gr_ (w.drop ((co_ w br_).toNat + 2)) (dx_ hw _) (by simp; omega))] (by simp only [go_sem, seval, asO, ab_, aa_, a7_, a6_, br_, hsw, ay_, ht (by simp at h44; exact h44.1)]; rfl) ?_ ?_
    ·simp only [T5_, T3_] at h44; simp [a9_, ba_]; omega
    refine .seq (.rgn [] (by simp only [go_sem, seval, asO, ab_, aa_, a7_, a6_, br_, hsw, ay_]; rfl) ?_ ?_)
    ·(first | trivial | (simp; done) | (simp [a9_]; done) | (simp [a9_]; omega))
    refine .ret ⟨.inr rfl, ?_⟩
    exact Out.plainL (by simp only [Tryz.results69]; rfl) (by simp only [av_, a3_, go_sem, seval, asO, ab_, aa_, a7_, a6_, br_, hsw, ay_] <;> (split <;> rfl)) (by simp only [a2_, go_sem, seval, asO, ab_, aa_, a7_, a6_, br_, hsw, ay_] <;> ((have e : eg_ w = ⟨3, [], ex ((w.take (co_ w br_).toNat).drop 1), ex (w.drop ((co_ w br_).toNat + 2))⟩ := (by unfold eg_; rw [if_neg (by simpa [b9_] using h5), if_pos (by simpa [wIf] using h23), if_pos (by simpa [br_] using h44)])); rw [e, ae_]; simp [br_, les, leV, ler, ba_])) (by simp only [go_sem, seval, asO, ab_, aa_, a7_, a6_, br_, hsw, ay_])
   ·refine .skip (.seq (.rgn [] (by simp only [go_sem, seval, asO, ab_, aa_, a7_, a6_, br_, hsw, ay_]; rfl) ?_ ?_))
    ·(first | trivial | (simp; done) | (simp [a9_]; done) | (simp [a9_]; omega))
    refine .ret ⟨.inr rfl, ?_⟩
    exact Out.plainL (by simp only [Tryz.results69]; rfl) (by simp only [av_, a3_, go_sem, seval, asO, ab_, aa_, a7_, a6_, br_, hsw, ay_] <;> (split <;> rfl)) (by simp only [a2_, go_sem, seval, asO, ab_, aa_, a7_, a6_, br_, hsw, ay_] <;> ((have e : eg_ w = ⟨3, [], E0, E0⟩ := (by unfold eg_; rw [if_neg (by simpa [b9_] using h5), if_pos (by simpa [wIf] using h23), if_neg (by simpa [br_] using h44)])); rw [e, ae_]; simp [les, leV, ler, ba_, gz_, gx_, g0_, cy_, dn_])) (by simp only [go_sem, seval, asO, ab_, aa_, a7_, a6_, br_, hsw, ay_])
  ·refine .seq (.rgn [] (by simp only [go_sem, seval, asO, ab_, aa_, a7_, a6_, br_, hsw, ay_]; rfl) ?_ ?_)
   ·(first | trivial | (simp; done) | (simp [a9_]; done) | (simp [a9_]; omega))
   refine .condB (by simp only [go_sem, seval, asO, ab_, aa_, a7_, a6_, br_, hsw, ay_]; rfl) (by simp only [go_sem, seval, asO, ab_, aa_, a7_, a6_, br_, hsw, ay_]) (fun h62 => ?_) (fun h62 => ?_)
   ·refine .seq (.rgnD [] enM (by simp only [go_sem, seval, asO, ab_, aa_, a7_, a6_, br_, hsw, ay_, cj_ (show 0 < w.length by simp at h62; omega)]; rfl) (by rfl) ?_ ?_)
    ·simp only [T3_] at h62; omega
    refine .rgn [a1_ (gr_ (w.drop 2) (dx_ hw 2) (by simp; omega))] (by simp only [go_sem, seval, asO, ab_, aa_, a7_, a6_, br_, hsw, ay_]; rfl) ?_ ?_
    ·simp only [T3_] at h62; simp [a9_, ba_]; omega
    refine .seq (.rgn [] (by simp only [go_sem, seval, asO, ab_, aa_, a7_, a6_, br_, hsw, ay_]; rfl) ?_ ?_)
    ·(first | trivial | (simp; done) | (simp [a9_]; done) | (simp [a9_]; omega))
    refine .ret ⟨.inr rfl, ?_⟩
    exact Out.plainL (by simp only [Tryz.results69]; rfl) (by simp only [av_, a3_, go_sem, seval, asO, ab_, aa_, a7_, a6_, br_, hsw, ay_] <;> (split <;> rfl)) (by simp only [a2_, go_sem, seval, asO, ab_, aa_, a7_, a6_, br_, hsw, ay_] <;> ((have e : eg_ w = ⟨1, w.getD 0 [], ex (w.drop 2), E0⟩ := (by unfold eg_; rw [if_neg (by simpa [b9_] using h5), if_neg (by simpa [wIf] using h23), if_pos (by simp at h62; omega)])); rw [e, ae_]; simp [les, leV, ler, ba_, gz_, gx_, g0_, cy_, dn_])) (by simp only [go_sem, seval, asO, ab_, aa_, a7_, a6_, br_, hsw, ay_])
   ·refine .skip (.seq (.rgn [] (by simp only [go_sem, seval, asO, ab_, aa_, a7_, a6_, br_, hsw, ay_]; rfl) ?_ ?_))
    ·(first | trivial | (simp; done) | (simp [a9_]; done) | (simp [a9_]; omega))
    refine .ret ⟨.inr rfl, ?_⟩
    exact Out.plainL (by simp only [Tryz.results69]; rfl) (by simp only [av_, a3_, go_sem, seval, asO, ab_, aa_, a7_, a6_, br_, hsw, ay_] <;> (split <;> rfl)) (by simp only [a2_, go_sem, seval, asO, ab_, aa_, a7_, a6_, br_, hsw, ay_] <;> ((have e : eg_ w = B0 := (by unfold eg_; rw [if_neg (by simpa [b9_] using h5), if_neg (by simpa [wIf] using h23), if_neg (by simp at h62; omega)])); rw [e, ae_]; simp [B0, les, leV, ler, ba_, gz_, gx_, g0_, cy_, dn_])) (by simp only [go_sem, seval, asO, ab_, aa_, a7_, a6_, br_, hsw, ay_])
end
section
set_option maxRecDepth 100000
set_option maxHeartbeats 8000000
theorem w8_ {w : List Str} (h : smW w) : sm (ex w) = true := by
 have hS := ((i_sm 500).1 1 ⟨w, false, 0⟩ h).1
 unfold ex ep_
 split
 ·split
  ·exact (show sm E0 = true by decide)
  ·exact hS
 ·exact (show sm E0 = true by decide)
theorem jj_ : ∀ (n : Nat) (l : Str) (c : Int) (t : List Tk), ef_ n l c = some t → ∀ x ∈ t, x.s.length ≤ l.length
 | 0, l, c, t, h => by simp [ef_] at h; subst h; intro x hx; cases hx
 | n + 1, [], c, t, h => by simp [ef_] at h; subst h; intro x hx; cases hx
 | n + 1, y :: l, c, t, h => by
  simp only [ef_] at h
  split at h
  ·intro x hx; have := jj_ n l _ t h x hx; simp only [T7_]; omega
  ·split at h
   ·cases h
   ·obtain ⟨u, hu, rfl⟩ := Option.map_eq_some_iff.1 h
    intro x hx
    rcases List.mem_cons.1 hx with rfl | hx
    ·simp only [List.length_take]; omega
    ·have h1 := jj_ n _ _ u hu x hx
     rw [List.length_drop] at h1; omega
theorem m1_ (s : Str) : smW (cl_ s) ∧ (cl_ s).length ≤ 120 := by
 refine ⟨?_, by unfold cl_; rw [List.length_map]; exact om_ s⟩
 unfold cl_
 cases h : b4_ s with
 | none => intro w hw; simp at hw
 | some t =>
  unfold b4_ at h
  split at h
  ·cases h
  ·intro w hw
   simp only [Option.getD_some] at hw
   obtain ⟨x, hx, rfl⟩ := List.mem_map.1 hw
   have := jj_ _ _ _ _ h x hx
   omega
theorem xt_ {w : List Str} (h : smW w) (k : Nat) : (w.getD k []).length ≤ 281474976710656 := by
 rw [T8_]
 cases hk : w[k]? with
 | none => simp
 | some x => exact h x (List.mem_of_getElem? hk)
theorem rv_ {w : List Str} (h : smW w) : smb (eg_ w) = true := by
 have g := xt_ h
 have e := fun k => w8_ (dx_ h k)
 have e0 : sm E0 = true := by decide
 unfold eg_
 split
 ·simp only [smb, e, e0, Bool.and_true]; rfl
 ·split
  ·split
   ·simp only [smb, e, w8_ (dx_ (j5_ h _) 1), Bool.and_true]; rfl
   ·simp only [smb, e0, Bool.and_true]; rfl
  ·split
   ·simp only [smb, e, e0, Bool.and_true, T3_]; have := g 0; omega
   ·decide
theorem jg_ {line : Str} (h : ¬ ((b4_ line).isSome = true ∧ bok (eg_ (cl_ line)) = true ∧ dk_ (eg_ (cl_ line)) = line)) : c7_ line = none := by
 unfold c7_ cl_ at *
 cases ht : b4_ line with
 | none => rfl
 | some ts =>
  rw [ht] at h
  simp only [Option.getD_some] at h
  dsimp only
  rw [if_neg]
  rintro ⟨h1, h2⟩
  exact h ⟨rfl, h1, by unfold dk_; rw [if_pos h1]; exact h2⟩
theorem jf_ {line : Str} (h : (b4_ line).isSome = true) (h1 : bok (eg_ (cl_ line)) = true) (h2 : dk_ (eg_ (cl_ line)) = line) : c7_ line = some (eg_ (cl_ line)) := by
 unfold c7_ cl_ at *
 cases ht : b4_ line with
 | none => rw [ht] at h; cases h
 | some ts =>
  rw [ht] at h1 h2
  simp only [Option.getD_some] at h1 h2 ⊢
  rw [if_pos ⟨h1, by unfold dk_ at h2; rw [if_pos h1] at h2; exact h2⟩]
theorem ig_ (line : Str) (hl : line.length ≤ 281474976710656) : ACall En 20 [.s line] [] [.ag (bC ((c7_ line).getD B0)), .b (c7_ line).isSome] [] := by
 obtain ⟨w1, w2⟩ := m1_ line
 have hs := rv_ w1
 refine al_ (fn := Tryz.f20) [] Tryz.func20 rfl rfl (by simp) fun C => ?_
 rw [aw_]
 simp only [Tryz.ntmps20, T7_, List.length_nil, Nat.reduceAdd, Nat.reduceSub, List.replicate_succ, List.replicate_zero, List.cons_append, List.nil_append, bo_]
 refine .seq (.rgn [] (by simp only [go_sem, seval, aa_, ay_, ae_]; rfl) ?_ ?_)
 ·first | trivial | simp
 refine .seq (.rgn [a1_ (y6_ line hl)] (by simp only [go_sem, seval, aa_, ay_, ae_]; rfl) ?_ ?_)
 ·first | trivial | simp
 refine .seq (.rgn [a1_ (vb_ (cl_ line) w1 (by omega))] (by simp only [go_sem, seval, aa_, ay_, ae_]; rfl) ?_ ?_)
 ·first | trivial | simp
 refine .seq (.seq (.rgn [a1_ (g8_ (eg_ (cl_ line)) hs), a1_ (io_ (eg_ (cl_ line)) hs)] (by simp only [go_sem, seval, aa_, ay_, ae_]; rfl) ?_ ?_))
 ·first | trivial | simp
 refine .condB (by simp only [go_sem, seval, aa_, ay_, ae_]; rfl) (by simp only [go_sem, seval, aa_, ay_, ae_]) (fun h26 => ?_) (fun h26 => ?_)
 ·refine .seq (.rgn [] (by simp only [go_sem, seval, aa_, ay_, ae_]; rfl) ?_ ?_)
  ·first | trivial | simp
  refine .ret ⟨.inr rfl, ?_⟩
  exact Out.plainL (by simp only [Tryz.results20]; rfl) (by simp only [av_, a3_, go_sem, seval, aa_, ay_, ae_] <;> (split <;> rfl)) (by simp only [a2_, go_sem, seval, aa_, ay_, ae_] <;> (rw [jg_ (by intro q; simp [q.1, q.2.1, q.2.2] at h26)]; simp [B0, les, leV, ler, ba_, gz_, gx_, g0_, cy_, dn_])) (by simp only [go_sem, seval, aa_, ay_, ae_])
 ·refine .skip (.seq (.rgn [] (by simp only [go_sem, seval, aa_, ay_, ae_]; rfl) ?_ ?_))
  ·first | trivial | simp
  refine .ret ⟨.inr rfl, ?_⟩
  exact Out.plainL (by simp only [Tryz.results20]; rfl) (by simp only [av_, a3_, go_sem, seval, aa_, ay_, ae_] <;> (split <;> rfl)) (by simp only [a2_, go_sem, seval, aa_, ay_, ae_] <;> (rw [jf_ (by simp at h26; exact h26.1.1) (by simp at h26; exact h26.1.2) (by simp at h26; exact h26.2)]; simp [les, leV, ler, ba_])) (by simp only [go_sem, seval, aa_, ay_, ae_])
end
end Go.Proofs.YtpikbndepapbhabGreatDoor
