/- Lines are read: the program's. Conditions: none. -/
import Derived.Test.YtpikbndepapbhaaGreatDoorKt
import Derived.Test.YtpikbndepapbhaaGreatDoorKn
import Derived.Test.YtpikbndepapbhaaGreatDoorKl
set_option linter.unusedVariables false
set_option linter.unusedSimpArgs false
namespace Go.Proofs.YtpikbndepapbhaaGreatDoor
section
set_option maxRecDepth 100000
set_option maxHeartbeats 8000000
theorem ba_ (l : List Str) (k : Nat) : (bm_ l).drop k = bm_ (l.drop k) := by simp [bm_, List.map_drop]
theorem a9_ (l : List Str) (k : Nat) : (bm_ l).take k = bm_ (l.take k) := by simp [bm_, List.map_take]
theorem ei_ {l : List Str} (h : smW l) (k : Nat) : smW (l.drop k) := fun w hw => h w (List.mem_of_mem_drop hw)
theorem l9_ {l : List Str} (h : smW l) (k : Nat) : smW (l.take k) := fun w hw => h w (List.mem_of_mem_take hw)
def dd_ (s : Str) : List Str := ((ci_ s).getD []).map (·.s)
theorem mc_ : ∀ (n : Nat) (l : Str) (c : Int) (t : List Tk), e5_ n l c = some t → t.length ≤ l.length
 | 0, l, c, t, h => by simp [e5_] at h; subst h; simp
 | n + 1, [], c, t, h => by simp [e5_] at h; subst h; simp
 | n + 1, x :: l, c, t, h => by
  simp only [e5_] at h
  split at h
  ·have := mc_ n l _ t h; simp only [T7_]; omega
  ·split at h
   ·cases h
   ·obtain ⟨u, hu, rfl⟩ := Option.map_eq_some_iff.1 h
    have h1 := mc_ n _ _ u hu
    have h2 := k8_ (x :: l)
    rw [List.length_drop] at h1
    simp only [T7_] at h1 ⊢; omega
theorem pt_ (s : Str) : ((ci_ s).getD []).length ≤ 120 := by
 cases h : ci_ s with
 | none => simp
 | some t =>
  unfold ci_ at h
  split at h
  ·cases h
  ·have := mc_ _ _ _ _ h; simp only [Option.getD_some]; omega
theorem ym_ (l : List Str) (s : Str) : -1 ≤ d1_ l s ∧ d1_ l s < l.length := by
 unfold d1_
 split
 ·rename_i h
  have := List.idxOf_lt_length_iff.2 h
  omega
 ·omega
theorem abf_ (s : Str) (hs : s.length ≤ 281474976710656) : ACall En 78 [.s s] [] [.sl false (bm_ (dd_ s)), .b (ci_ s).isSome] [] := by
 have T := aa9_ s hs
 have hb := pt_ s
 unfold dd_
 generalize (ci_ s).getD [] = ts at *
 have hp : ∀ k, ch_ (es_ (bm_ (ts.map (·.s))) [.s []] k) = true := fun k => gz_ (aa_ _) rfl
 have hll : (bm_ (ts.map (·.s))).length = ts.length := by simp [bm_]
 refine al_ (fn := Tryz.f78) [] Tryz.func78 rfl rfl (by simp) fun C => ?_
 rw [av_]
 simp only [Tryz.ntmps78, T7_, List.length_nil, Nat.reduceAdd, Nat.reduceSub, List.replicate_succ, List.replicate_zero, List.cons_append, List.nil_append, bt_]
 refine .seq (.rgn [] (by simp only [go_sem, seval, ay_, au_, hp, a0_, at_, hll]; rfl) ?_ ?_)
 ·first | trivial | simp
 refine .seq (.rgn [a3_ T] (by simp only [go_sem, seval, ay_, au_, hp, a0_, at_, hll]; rfl) ?_ ?_)
 ·first | trivial | simp
 refine .seq (.rgn [] (by simp only [go_sem, seval, ay_, au_, hp, a0_, at_, hll]; rfl) ?_ ?_)
 ·simp; omega
 refine .seq (.seq (.rgn [] (by simp only [go_sem, seval, ay_, au_, hp, a0_, at_, hll]; rfl) ?_ ?_))
 ·first | trivial | simp
 refine .block (.loopK (fun k : Nat => ⟨[.no, .no, .no, .no, .no, .b (ci_ s).isSome, .ow 26 1 0 ts.length, .no, .no, .no, .no, .no, .no, .no, .no, .no, .no, .sl false (tkR ts), .i .i64 ts.length, .i .i64 k, .no, .no, .no, .no, .no, .no, .no, .no, .no, .no, .no, .no], be_ [(26, ⟨9, 1, es_ (bm_ (ts.map (·.s))) [.s []] k⟩)], us [26]⟩) (fun k : Nat => k ≤ ts.length) (fun k : Nat => ts.length - k) (0) ?_ ?_ (fun k hI => ?_))
 ·simp
 ·exact Can.weak (Weak.lit (by simp only [go_sem, seval, ay_, au_, hp, a0_, at_, hll, as_, leV, aq_, ar_, V.inn, us, T9_, Ta_] <;> (simp)) (by simp only [go_sem, seval, ay_, au_, hp, a0_, at_, hll, as_, leV, aq_, ar_, V.inn, us, T9_, Ta_]) (by simp only [go_sem, seval, ay_, au_, hp, a0_, at_, hll, as_, leV, aq_, ar_, V.inn, us, T9_, Ta_] <;> (simp [g1_, hll])))
 refine .seq (.rgn [] (by simp only [go_sem, seval, ay_, au_, hp, a0_, at_, hll]; rfl) ?_ ?_)
 ·first | trivial | simp
 refine .seq (.condB (by simp only [go_sem, seval, ay_, au_, hp, a0_, at_, hll]; rfl) (by simp only [go_sem, seval, ay_, au_, hp, a0_, at_, hll]) (fun h20 => ?_) (fun h20 => ?_))
 ·refine .skip (.seq (.block (.seq (.rgn [] (by simp only [go_sem, seval, ay_, au_, hp, a0_, at_, hll, x6_ (show k < ts.length by simpa using h20)]; rfl) ?_ ?_))))
  ·simp at h20; simp; omega
  refine .rgn [] (by simp only [go_sem, seval, ay_, au_, hp, a0_, at_, hll]; rfl) ?_ ?_
  ·simp at h20; simp; omega
  refine .rgn [] (by simp only [go_sem, seval, ay_, au_, hp, a0_, at_, hll]; rfl) ?_ ?_
  ·first | trivial | simp
  refine Exists.intro (k + 1) ⟨?_, ?_, ?_⟩
  ·simp at h20; omega
  ·simp at h20; omega
  exact Can.weak (Weak.lit (by simp only [go_sem, seval, ay_, au_, hp, a0_, at_, hll, as_, leV, aq_, ar_, V.inn, us, T9_, Ta_] <;> (rw [bd_ (by simp at h20; omega) (by simp at h20; omega)]; simp)) (by simp only [go_sem, seval, ay_, au_, hp, a0_, at_, hll, as_, leV, aq_, ar_, V.inn, us, T9_, Ta_]) (by simp only [go_sem, seval, ay_, au_, hp, a0_, at_, hll, as_, leV, aq_, ar_, V.inn, us, T9_, Ta_] <;> ((rw [← g8_ (by rw [hll]; simpa using h20), cj_ (by simpa using h20)]; simp [T8_, T6_ (show k < ts.length by simpa using h20)]))))
 ·refine .exit (.seq (.rgn [] (by simp only [go_sem, seval, ay_, au_, hp, a0_, at_, hll]; rfl) ?_ ?_))
  ·first | trivial | simp
  refine .frz 26 (by simp only [go_sem, seval, ay_, au_, hp, a0_, at_, hll]; rfl) (by simp only [go_sem, seval, ay_, au_, hp, a0_, at_, hll]) (by simp only [go_sem, seval, ay_, au_, hp, a0_, at_, hll]; rfl) (by simp only [go_sem, seval, ay_, au_, hp, a0_, at_, hll]; rfl) ?_
  refine .ret ⟨.inr rfl, ?_⟩
  exact Out.plain (by simp only [Tryz.results78]; rfl) (by simp only [ax_, a6_, go_sem, seval, ay_, au_, hp, a0_, at_, hll] <;> (split <;> rfl)) (by simp only [a4_, go_sem, seval, ay_, au_, hp, a0_, at_, hll] <;> (simp at h20; rw [ik_ (by omega)]; simp [← hll, T1_, peel])) (by simp only [go_sem, seval, ay_, au_, hp, a0_, at_, hll])
theorem ajc_ (w : List Str) : (decide ((w.length : Int) > 0) = true → decide ((w.length : Int) > 0) = true ∧ (0 : Int) < w.length ∧ ((bm_ w).getD 0 []).length = 1) ∧ (decide ((w.length : Int) > 0) = true → (decide ((w.length : Int) > 0) = true ∧ 1 ≤ ((bm_ w).getD 0 []).length) ∧ ({ v := ((bm_ w).getD 0 []).getD 0 .no } : Eff) = { v := .s (w.getD 0 []) }) := by
 cases w with
 | nil => simp
 | cons x r => simp [bm_]
end
section
set_option maxRecDepth 100000
set_option maxHeartbeats 8000000
theorem zq_ {w : List Str} (h : smW w) : sm (ex w) = true := by
 have hS := ((i_sm 500).1 1 ⟨w, false, 0⟩ h).1
 unfold ex fi_
 split
 ·split
  ·exact (show sm E0 = true by decide)
  ·exact hS
 ·exact (show sm E0 = true by decide)
theorem ko_ : ∀ (n : Nat) (l : Str) (c : Int) (t : List Tk), e5_ n l c = some t → ∀ x ∈ t, x.s.length ≤ l.length
 | 0, l, c, t, h => by simp [e5_] at h; subst h; intro x hx; cases hx
 | n + 1, [], c, t, h => by simp [e5_] at h; subst h; intro x hx; cases hx
 | n + 1, y :: l, c, t, h => by
  simp only [e5_] at h
  split at h
  ·intro x hx; have := ko_ n l _ t h x hx; simp only [T7_]; omega
  ·split at h
   ·cases h
   ·obtain ⟨u, hu, rfl⟩ := Option.map_eq_some_iff.1 h
    intro x hx
    rcases List.mem_cons.1 hx with rfl | hx
    ·simp only [List.length_take]; omega
    ·have h1 := ko_ n _ _ u hu x hx
     rw [List.length_drop] at h1; omega
theorem st_ (s : Str) : smW (dd_ s) ∧ (dd_ s).length ≤ 120 := by
 refine ⟨?_, by unfold dd_; rw [List.length_map]; exact pt_ s⟩
 unfold dd_
 cases h : ci_ s with
 | none => intro w hw; simp at hw
 | some t =>
  unfold ci_ at h
  split at h
  ·cases h
  ·intro w hw
   simp only [Option.getD_some] at hw
   obtain ⟨x, hx, rfl⟩ := List.mem_map.1 hw
   have := ko_ _ _ _ _ h x hx
   omega
theorem zk_ {w : List Str} (h : smW w) (k : Nat) : (w.getD k []).length ≤ 281474976710656 := by
 rw [T8_]
 cases hk : w[k]? with
 | none => simp
 | some x => exact h x (List.mem_of_getElem? hk)
theorem a2_ (s : Sl) : cs_ (sC s) = true := by rw [aj_]; simp only [cs_, V.pure, i4_, Bool.and_self]
theorem ac0_ {w : List Str} (h : smW w) : ez_ (rdS w) = true := by
 have g := zk_ h
 have e := fun k => zq_ (ei_ h k)
 have e0 : sm E0 = true := by decide
 unfold rdS
 split
 ·simp only [ez_, e, e0, Bool.and_true, T5_, T3_]; have := g 1; have := g 3; omega
 ·split
  ·simp only [ez_, e, e0, Bool.and_true]; rfl
  ·split
   ·split
    ·simp only [ez_, e, zq_ (ei_ (l9_ h _) 1), Bool.and_true]; rfl
    ·simp only [ez_, e0, Bool.and_true]; rfl
   ·decide
theorem t5_ {w : List Str} (h : (decide ((w.length : Int) > 5) && w.getD 0 [] == [108, 101, 116]) = true) : 5 < w.length ∧ w.getD 0 [] = hz_ := by
 simp only [T5_, T3_, beq_iff_eq] at h; exact ⟨by omega, h.2⟩
theorem za_ {w : List Str} (h : (decide ((w.length : Int) > 5) && w.getD 0 [] == [108, 101, 116]) = false) : ¬ (5 < w.length ∧ w.getD 0 [] = hz_) := fun q => by
 have : (decide ((w.length : Int) > 5) && w.getD 0 [] == [108, 101, 116]) = true := by simp only [T5_, T3_, beq_iff_eq]; exact ⟨by omega, q.2⟩
 rw [this] at h; cases h
theorem akt_ (w : List Str) (c : Bool) (hc : c = true → w ≠ []) : (c = true → c = true ∧ (0 : Int) < w.length ∧ ((bm_ w).getD 0 []).length = 1) ∧ (c = true → (c = true ∧ 1 ≤ ((bm_ w).getD 0 []).length) ∧ ({ v := ((bm_ w).getD 0 []).getD 0 .no } : Eff) = { v := .s (w.getD 0 []) }) := by
 cases w with
 | nil => exact ⟨fun h => absurd rfl (hc h), fun h => absurd rfl (hc h)⟩
 | cons x r => simp [bm_]
theorem xa_ (w : List Str) (hw : smW w) (hl : w.length ≤ 100000) : ACall En 79 [.sl false (bm_ w)] [] [.ag (sC (rdS w))] [] := by
 have hs := ym_ w bv_
 simp only [bv_] at hs
 have hsw : IntKind.i64.wrap (d1_ w [115, 97, 121] + 1) = d1_ w [115, 97, 121] + 1 := bd_ (by omega) (by omega)
 have ht : 0 < d1_ w [115, 97, 121] → (d1_ w [115, 97, 121] + 1).toNat = (d1_ w [115, 97, 121]).toNat + 1 := fun h => by omega
 refine al_ (fn := Tryz.f79) [] Tryz.func79 rfl rfl (by simp) fun C => ?_
 rw [av_]
 simp only [Tryz.ntmps79, T7_, List.length_nil, Nat.reduceAdd, Nat.reduceSub, List.replicate_succ, List.replicate_zero, List.cons_append, List.nil_append, bt_]
 refine .seq (.rgn [] (by simp only [go_sem, seval, asO, ab_, aa_, ba_, a9_, bv_, hsw, a2_]; rfl) ?_ ?_)
 ·(first | trivial | (simp; done) | (simp [bc_]; done) | (simp [bc_]; omega))
 refine .seq (.rgn [] (by simp only [go_sem, seval, asO, ab_, aa_, ba_, a9_, bv_, hsw, a2_]; rfl) ?_ ?_)
 ·(first | trivial | (simp; done) | (simp [bc_]; done) | (simp [bc_]; omega))
 refine .seq (.block (.seq (.rgnS [12] [asO En { v := .s (w.getD 0 []) }] (by simp only [go_sem, seval, asO, ab_, aa_, ba_, a9_, bv_, hsw, a2_]; rfl) ?_ ?_)))
 ·exact akt_ w _ (fun h e => by simp [e] at h)
 refine .condB (by simp only [go_sem, seval, asO, ab_, aa_, ba_, a9_, bv_, hsw, a2_]; rfl) (by simp only [go_sem, seval, asO, ab_, aa_, ba_, a9_, bv_, hsw, a2_]) (fun h5 => ?_) (fun h5 => ?_)
 ·refine .seq (.rgnD [] enM (by simp only [go_sem, seval, asO, ab_, aa_, ba_, a9_, bv_, hsw, a2_, cj_ (show 1 < w.length by have := t5_ h5; omega), cj_ (show 3 < w.length by have := t5_ h5; omega)]; rfl) (by rfl) ?_ ?_)
  ·have := t5_ h5; (first | omega | (simp [bc_, ce_]; omega))
  refine .rgn [a3_ (hm_ (w.drop 5) (ei_ hw 5) (by simp; omega))] (by simp only [go_sem, seval, asO, ab_, aa_, ba_, a9_, bv_, hsw, a2_]; rfl) ?_ ?_
  ·have := t5_ h5; simp [bc_, a8_]; omega
  refine .seq (.rgn [] (by simp only [go_sem, seval, asO, ab_, aa_, ba_, a9_, bv_, hsw, a2_]; rfl) ?_ ?_)
  ·(first | trivial | (simp; done) | (simp [bc_]; done) | (simp [bc_]; omega))
  refine .ret ⟨.inr rfl, ?_⟩
  exact Out.plainL (by simp only [Tryz.results79]; rfl) (by simp only [ax_, a6_, go_sem, seval, asO, ab_, aa_, ba_, a9_, bv_, hsw, a2_] <;> (split <;> rfl)) (by simp only [a4_, go_sem, seval, asO, ab_, aa_, ba_, a9_, bv_, hsw, a2_] <;> ((have e : rdS w = ⟨1, w.getD 1 [], w.getD 3 [], ex (w.drop 5), E0⟩ := (by unfold rdS; rw [if_pos (t5_ h5)])); rw [e, aj_]; simp [les, leV, ler, a8_, iy_, i0_, ip_, dj_, ec_])) (by simp only [go_sem, seval, asO, ab_, aa_, ba_, a9_, bv_, hsw, a2_])
 ·refine .seq (.rgnS [38] [asO En { v := .s (w.getD 0 []) }] (by simp only [go_sem, seval, asO, ab_, aa_, ba_, a9_, bv_, hsw, a2_]; rfl) ?_ ?_)
  ·exact ajc_ w
  refine .condB (by simp only [go_sem, seval, asO, ab_, aa_, ba_, a9_, bv_, hsw, a2_]; rfl) (by simp only [go_sem, seval, asO, ab_, aa_, ba_, a9_, bv_, hsw, a2_]) (fun h31 => ?_) (fun h31 => ?_)
  ·refine .seq (.rgn [] (by simp only [go_sem, seval, asO, ab_, aa_, ba_, a9_, bv_, hsw, a2_]; rfl) ?_ ?_)
   ·(first | trivial | (simp; done) | (simp [bc_]; done) | (simp [bc_]; omega))
   refine .rgn [a3_ (hm_ (w.drop 1) (ei_ hw 1) (by simp; omega))] (by simp only [go_sem, seval, asO, ab_, aa_, ba_, a9_, bv_, hsw, a2_]; rfl) ?_ ?_
   ·simp only [T5_, T3_] at h31; simp [bc_, a8_]; omega
   refine .seq (.rgn [] (by simp only [go_sem, seval, asO, ab_, aa_, ba_, a9_, bv_, hsw, a2_]; rfl) ?_ ?_)
   ·(first | trivial | (simp; done) | (simp [bc_]; done) | (simp [bc_]; omega))
   refine .ret ⟨.inr rfl, ?_⟩
   exact Out.plainL (by simp only [Tryz.results79]; rfl) (by simp only [ax_, a6_, go_sem, seval, asO, ab_, aa_, ba_, a9_, bv_, hsw, a2_] <;> (split <;> rfl)) (by simp only [a4_, go_sem, seval, asO, ab_, aa_, ba_, a9_, bv_, hsw, a2_] <;> ((have e : rdS w = ⟨2, [], [], ex (w.drop 1), E0⟩ := (by unfold rdS; rw [if_neg (za_ h5), if_pos (by simpa [bv_] using h31)])); rw [e, aj_]; simp [les, leV, ler, a8_, iy_, i0_, ip_, dj_, ec_])) (by simp only [go_sem, seval, asO, ab_, aa_, ba_, a9_, bv_, hsw, a2_])
  ·refine .seq (.rgnS [56] [asO En { v := .s (w.getD 0 []) }] (by simp only [go_sem, seval, asO, ab_, aa_, ba_, a9_, bv_, hsw, a2_]; rfl) ?_ ?_)
   ·exact ajc_ w
   refine .condB (by simp only [go_sem, seval, asO, ab_, aa_, ba_, a9_, bv_, hsw, a2_]; rfl) (by simp only [go_sem, seval, asO, ab_, aa_, ba_, a9_, bv_, hsw, a2_]) (fun h49 => ?_) (fun h49 => ?_)
   ·refine .seq (.rgn [] (by simp only [go_sem, seval, asO, ab_, aa_, ba_, a9_, bv_, hsw, a2_]; rfl) ?_ ?_)
    ·(first | trivial | (simp; done) | (simp [bc_]; done) | (simp [bc_]; omega))
    refine .seq (.rgn [a3_ (ze_ w bv_ (by omega))] (by simp only [go_sem, seval, asO, ab_, aa_, ba_, a9_, bv_, hsw, a2_]; rfl) ?_ ?_)
    ·(first | trivial | (simp; done) | (simp [bc_]; done) | (simp [bc_]; omega))
    refine .seq (.rgn [] (by simp only [go_sem, seval, asO, ab_, aa_, ba_, a9_, bv_, hsw, a2_]; rfl) ?_ ?_)
    ·(first | trivial | (simp; done) | (simp [bc_]; done) | (simp [bc_]; omega))
    refine .condB (by simp only [go_sem, seval, asO, ab_, aa_, ba_, a9_, bv_, hsw, a2_]; rfl) (by simp only [go_sem, seval, asO, ab_, aa_, ba_, a9_, bv_, hsw, a2_]) (fun h63 => ?_) (fun h63 => ?_)
    ·refine .seq (.rgn [a3_ (hm_ ((w.take (d1_ w bv_).toNat).drop 1) (ei_ (l9_ hw _) 1) (by simp; omega))] (by simp only [go_sem, seval, asO, ab_, aa_, ba_, a9_, bv_, hsw, a2_]; rfl) ?_ ?_)
     ·simp only [T3_] at h63; simp [bc_]; omega
     refine .rgn [a3_ (hm_ (w.drop ((d1_ w bv_).toNat + 1)) (ei_ hw _) (by simp; omega))] (by simp only [go_sem, seval, asO, ab_, aa_, ba_, a9_, bv_, hsw, a2_, ht (by simpa using h63)]; rfl) ?_ ?_
     ·simp only [T3_] at h63; simp [bc_, a8_]; omega
     refine .seq (.rgn [] (by simp only [go_sem, seval, asO, ab_, aa_, ba_, a9_, bv_, hsw, a2_]; rfl) ?_ ?_)
     ·(first | trivial | (simp; done) | (simp [bc_]; done) | (simp [bc_]; omega))
     refine .ret ⟨.inr rfl, ?_⟩
     exact Out.plainL (by simp only [Tryz.results79]; rfl) (by simp only [ax_, a6_, go_sem, seval, asO, ab_, aa_, ba_, a9_, bv_, hsw, a2_] <;> (split <;> rfl)) (by simp only [a4_, go_sem, seval, asO, ab_, aa_, ba_, a9_, bv_, hsw, a2_] <;> ((have e : rdS w = ⟨3, [], [], ex ((w.take (d1_ w bv_).toNat).drop 1), ex (w.drop ((d1_ w bv_).toNat + 1))⟩ := (by unfold rdS; rw [if_neg (za_ h5), if_neg (by simpa [bv_] using h31), if_pos (by simpa [ds_] using h49), if_pos (by simpa [bv_] using h63)])); rw [e, aj_]; simp [bv_, les, leV, ler, a8_])) (by simp only [go_sem, seval, asO, ab_, aa_, ba_, a9_, bv_, hsw, a2_])
    ·refine .skip (.seq (.rgn [] (by simp only [go_sem, seval, asO, ab_, aa_, ba_, a9_, bv_, hsw, a2_]; rfl) ?_ ?_))
     ·(first | trivial | (simp; done) | (simp [bc_]; done) | (simp [bc_]; omega))
     refine .ret ⟨.inr rfl, ?_⟩
     exact Out.plainL (by simp only [Tryz.results79]; rfl) (by simp only [ax_, a6_, go_sem, seval, asO, ab_, aa_, ba_, a9_, bv_, hsw, a2_] <;> (split <;> rfl)) (by simp only [a4_, go_sem, seval, asO, ab_, aa_, ba_, a9_, bv_, hsw, a2_] <;> ((have e : rdS w = ⟨3, [], [], E0, E0⟩ := (by unfold rdS; rw [if_neg (za_ h5), if_neg (by simpa [bv_] using h31), if_pos (by simpa [ds_] using h49), if_neg (by simpa [bv_] using h63)])); rw [e, aj_]; simp [les, leV, ler, a8_, iy_, i0_, ip_, dj_, ec_])) (by simp only [go_sem, seval, asO, ab_, aa_, ba_, a9_, bv_, hsw, a2_])
   ·refine .skip (.seq (.rgn [] (by simp only [go_sem, seval, asO, ab_, aa_, ba_, a9_, bv_, hsw, a2_]; rfl) ?_ ?_))
    ·(first | trivial | (simp; done) | (simp [bc_]; done) | (simp [bc_]; omega))
    refine .ret ⟨.inr rfl, ?_⟩
    exact Out.plainL (by simp only [Tryz.results79]; rfl) (by simp only [ax_, a6_, go_sem, seval, asO, ab_, aa_, ba_, a9_, bv_, hsw, a2_] <;> (split <;> rfl)) (by simp only [a4_, go_sem, seval, asO, ab_, aa_, ba_, a9_, bv_, hsw, a2_] <;> ((have e : rdS w = S0 := (by unfold rdS; rw [if_neg (za_ h5), if_neg (by simpa [bv_] using h31), if_neg (by simpa [ds_] using h49)])); rw [e, aj_]; simp [S0, les, leV, ler, a8_, iy_, i0_, ip_, dj_, ec_])) (by simp only [go_sem, seval, asO, ab_, aa_, ba_, a9_, bv_, hsw, a2_])
theorem oo_ {line : Str} (h : ¬ ((ci_ line).isSome = true ∧ sok (rdS (dd_ line)) = true ∧ el_ (rdS (dd_ line)) = line)) : dy_ line = none := by
 unfold dy_ dd_ at *
 cases ht : ci_ line with
 | none => rfl
 | some ts =>
  rw [ht] at h
  simp only [Option.getD_some] at h
  dsimp only
  rw [if_neg]
  rintro ⟨h1, h2⟩
  exact h ⟨rfl, h1, by unfold el_; rw [if_pos h1]; exact h2⟩
theorem qe_ {line : Str} (h : (ci_ line).isSome = true) (h1 : sok (rdS (dd_ line)) = true) (h2 : el_ (rdS (dd_ line)) = line) : dy_ line = some (rdS (dd_ line)) := by
 unfold dy_ dd_ at *
 cases ht : ci_ line with
 | none => rw [ht] at h; cases h
 | some ts =>
  rw [ht] at h1 h2
  simp only [Option.getD_some] at h1 h2 ⊢
  rw [if_pos ⟨h1, by unfold el_ at h2; rw [if_pos h1] at h2; exact h2⟩]
theorem wj_ (line : Str) (hl : line.length ≤ 281474976710656) : ACall En 45 [.s line] [] [.ag (sC ((dy_ line).getD S0)), .b (dy_ line).isSome] [] := by
 obtain ⟨w1, w2⟩ := st_ line
 have hs := ac0_ w1
 refine al_ (fn := Tryz.f45) [] Tryz.func45 rfl rfl (by simp) fun C => ?_
 rw [av_]
 simp only [Tryz.ntmps45, T7_, List.length_nil, Nat.reduceAdd, Nat.reduceSub, List.replicate_succ, List.replicate_zero, List.cons_append, List.nil_append, bt_]
 refine .seq (.rgn [] (by simp only [go_sem, seval, aa_, a2_, aj_]; rfl) ?_ ?_)
 ·first | trivial | simp
 refine .seq (.rgn [a3_ (abf_ line hl)] (by simp only [go_sem, seval, aa_, a2_, aj_]; rfl) ?_ ?_)
 ·first | trivial | simp
 refine .seq (.rgn [a3_ (xa_ (dd_ line) w1 (by omega))] (by simp only [go_sem, seval, aa_, a2_, aj_]; rfl) ?_ ?_)
 ·first | trivial | simp
 refine .seq (.seq (.rgn [a3_ (r5_ (rdS (dd_ line)) hs), a3_ (vr_ (rdS (dd_ line)) hs)] (by simp only [go_sem, seval, aa_, a2_, aj_]; rfl) ?_ ?_))
 ·first | trivial | simp
 refine .condB (by simp only [go_sem, seval, aa_, a2_, aj_]; rfl) (by simp only [go_sem, seval, aa_, a2_, aj_]) (fun h26 => ?_) (fun h26 => ?_)
 ·refine .seq (.rgn [] (by simp only [go_sem, seval, aa_, a2_, aj_]; rfl) ?_ ?_)
  ·first | trivial | simp
  refine .ret ⟨.inr rfl, ?_⟩
  exact Out.plainL (by simp only [Tryz.results45]; rfl) (by simp only [ax_, a6_, go_sem, seval, aa_, a2_, aj_] <;> (split <;> rfl)) (by simp only [a4_, go_sem, seval, aa_, a2_, aj_] <;> (rw [oo_ (by intro q; simp [q.1, q.2.1, q.2.2] at h26)]; simp [S0, les, leV, ler, a8_, iy_, i0_, ip_, dj_, ec_])) (by simp only [go_sem, seval, aa_, a2_, aj_])
 ·refine .skip (.seq (.rgn [] (by simp only [go_sem, seval, aa_, a2_, aj_]; rfl) ?_ ?_))
  ·first | trivial | simp
  refine .ret ⟨.inr rfl, ?_⟩
  exact Out.plainL (by simp only [Tryz.results45]; rfl) (by simp only [ax_, a6_, go_sem, seval, aa_, a2_, aj_] <;> (split <;> rfl)) (by simp only [a4_, go_sem, seval, aa_, a2_, aj_] <;> (rw [qe_ (by simp at h26; exact h26.1.1) (by simp at h26; exact h26.1.2) (by simp at h26; exact h26.2)]; simp [les, leV, ler, a8_])) (by simp only [go_sem, seval, aa_, a2_, aj_])
end
end Go.Proofs.YtpikbndepapbhaaGreatDoor
