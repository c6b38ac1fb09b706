/- Lines are read: the program's. Conditions: none. -/
import Derived.Test.YtcigkafioinfoaaGreatDoorKt
import Derived.Test.YtcigkafioinfoaaGreatDoorKn
import Derived.Test.YtcigkafioinfoaaGreatDoorKl
set_option linter.unusedVariables false
set_option linter.unusedSimpArgs false
namespace Go.Proofs.YtcigkafioinfoaaGreatDoor
section
set_option maxRecDepth 100000
set_option maxHeartbeats 8000000
theorem bh_ (l : List Str) (k : Nat) : (b6_ l).drop k = b6_ (l.drop k) := by simp [b6_, List.map_drop]
theorem bi_ (l : List Str) (k : Nat) : (b6_ l).take k = b6_ (l.take k) := by simp [b6_, List.map_take]
theorem el_ {l : List Str} (h : smW l) (k : Nat) : smW (l.drop k) := fun w hw => h w (List.mem_of_mem_drop hw)
theorem lh_ {l : List Str} (h : smW l) (k : Nat) : smW (l.take k) := fun w hw => h w (List.mem_of_mem_take hw)
def dc_ (s : Str) : List Str := ((b1_ s).getD []).map (·.s)
theorem ms_ : ∀ (n : Nat) (l : Str) (c : Int) (t : List Tk), fa_ n l c = some t → t.length ≤ l.length
 | 0, l, c, t, h => by simp [fa_] at h; subst h; simp
 | n + 1, [], c, t, h => by simp [fa_] at h; subst h; simp
 | n + 1, x :: l, c, t, h => by
  simp only [fa_] at h
  split at h
  ·have := ms_ n l _ t h; simp only [T7_]; omega
  ·split at h
   ·cases h
   ·obtain ⟨u, hu, rfl⟩ := Option.map_eq_some_iff.1 h
    have h1 := ms_ n _ _ u hu
    have h2 := lu_ (x :: l)
    rw [List.length_drop] at h1
    simp only [T7_] at h1 ⊢; omega
theorem p8_ (s : Str) : ((b1_ s).getD []).length ≤ 120 := by
 cases h : b1_ s with
 | none => simp
 | some t =>
  unfold b1_ at h
  split at h
  ·cases h
  ·have := ms_ _ _ _ _ h; simp only [Option.getD_some]; omega
theorem z1_ (l : List Str) (s : Str) : -1 ≤ d2_ l s ∧ d2_ l s < l.length := by
 unfold d2_
 split
 ·rename_i h
  have := List.idxOf_lt_length_iff.2 h
  omega
 ·omega
theorem aa6_ (s : Str) (hs : s.length ≤ 281474976710656) : ACall En 73 [.s s] [] [.sl false (b6_ (dc_ s)), .b (b1_ s).isSome] [] := by
 have T := sg_ s hs
 have hb := p8_ s
 unfold dc_
 generalize (b1_ s).getD [] = ts at *
 have hp : ∀ k, cj_ (c3_ (b6_ (ts.map (·.s))) [.s []] k) = true := fun k => ga_ (ab_ _) rfl
 have hll : (b6_ (ts.map (·.s))).length = ts.length := by simp [b6_]
 refine al_ (fn := Tryz.f73) [] Tryz.func73 rfl rfl (by simp) fun C => ?_
 rw [ay_]
 simp only [Tryz.ntmps73, T7_, List.length_nil, Nat.reduceAdd, Nat.reduceSub, List.replicate_succ, List.replicate_zero, List.cons_append, List.nil_append, bs_]
 refine .seq (.rgn [] (by simp only [go_sem, seval, as_, am_, hp, bm_, au_, hll]; rfl) ?_ ?_)
 ·first | trivial | simp
 refine .seq (.rgn [a9_ T] (by simp only [go_sem, seval, as_, am_, hp, bm_, au_, hll]; rfl) ?_ ?_)
 ·first | trivial | simp
 refine .seq (.rgn [] (by simp only [go_sem, seval, as_, am_, hp, bm_, au_, hll]; rfl) ?_ ?_)
 ·simp; omega
 refine .seq (.seq (.rgn [] (by simp only [go_sem, seval, as_, am_, hp, bm_, au_, hll]; rfl) ?_ ?_))
 ·first | trivial | simp
 refine .block (.loopK (fun k : Nat => ⟨[.no, .no, .no, .no, .no, .b (b1_ s).isSome, .ow 26 1 0 ts.length, .no, .no, .no, .no, .no, .no, .no, .no, .no, .no, .sl false (tkR ts), .i .i64 ts.length, .i .i64 k, .no, .no, .no, .no, .no, .no, .no, .no, .no, .no, .no, .no], a7_ [(26, ⟨9, 1, c3_ (b6_ (ts.map (·.s))) [.s []] k⟩)], us [26]⟩) (fun k : Nat => k ≤ ts.length) (fun k : Nat => ts.length - k) (0) ?_ ?_ (fun k hI => ?_))
 ·simp
 ·exact Can.weak (Weak.lit (by simp only [go_sem, seval, as_, am_, hp, bm_, au_, hll, at_, leV, aq_, ar_, V.inn, us, T9_, Ta_] <;> (simp)) (by simp only [go_sem, seval, as_, am_, hp, bm_, au_, hll, at_, leV, aq_, ar_, V.inn, us, T9_, Ta_]) (by simp only [go_sem, seval, as_, am_, hp, bm_, au_, hll, at_, leV, aq_, ar_, V.inn, us, T9_, Ta_] <;> (simp [fp_, hll])))
 refine .seq (.rgn [] (by simp only [go_sem, seval, as_, am_, hp, bm_, au_, hll]; rfl) ?_ ?_)
 ·first | trivial | simp
 refine .seq (.condB (by simp only [go_sem, seval, as_, am_, hp, bm_, au_, hll]; rfl) (by simp only [go_sem, seval, as_, am_, hp, bm_, au_, hll]) (fun h20 => ?_) (fun h20 => ?_))
 ·refine .skip (.seq (.block (.seq (.rgn [] (by simp only [go_sem, seval, as_, am_, hp, bm_, au_, hll, n9_ (show k < ts.length by simpa using h20)]; rfl) ?_ ?_))))
  ·simp at h20; simp; omega
  refine .rgn [] (by simp only [go_sem, seval, as_, am_, hp, bm_, au_, hll]; rfl) ?_ ?_
  ·simp at h20; simp; omega
  refine .rgn [] (by simp only [go_sem, seval, as_, am_, hp, bm_, au_, hll]; rfl) ?_ ?_
  ·first | trivial | simp
  refine Exists.intro (k + 1) ⟨?_, ?_, ?_⟩
  ·simp at h20; omega
  ·simp at h20; omega
  exact Can.weak (Weak.lit (by simp only [go_sem, seval, as_, am_, hp, bm_, au_, hll, at_, leV, aq_, ar_, V.inn, us, T9_, Ta_] <;> (rw [bp_ (by simp at h20; omega) (by simp at h20; omega)]; simp)) (by simp only [go_sem, seval, as_, am_, hp, bm_, au_, hll, at_, leV, aq_, ar_, V.inn, us, T9_, Ta_]) (by simp only [go_sem, seval, as_, am_, hp, bm_, au_, hll, at_, leV, aq_, ar_, V.inn, us, T9_, Ta_] <;> ((rw [← fx_ (by rw [hll]; simpa using h20), cy_ (by simpa using h20)]; simp [T8_, T6_ (show k < ts.length by simpa using h20)]))))
 ·refine .exit (.seq (.rgn [] (by simp only [go_sem, seval, as_, am_, hp, bm_, au_, hll]; rfl) ?_ ?_))
  ·first | trivial | simp
  refine .frz 26 (by simp only [go_sem, seval, as_, am_, hp, bm_, au_, hll]; rfl) (by simp only [go_sem, seval, as_, am_, hp, bm_, au_, hll]) (by simp only [go_sem, seval, as_, am_, hp, bm_, au_, hll]; rfl) (by simp only [go_sem, seval, as_, am_, hp, bm_, au_, hll]; rfl) ?_
  refine .ret ⟨.inr rfl, ?_⟩
  exact Out.plain (by simp only [Tryz.results73]; rfl) (by simp only [az_, bj_, go_sem, seval, as_, am_, hp, bm_, au_, hll] <;> (split <;> rfl)) (by simp only [bg_, go_sem, seval, as_, am_, hp, bm_, au_, hll] <;> (simp at h20; rw [gk_ (by omega)]; simp [← hll, T1_, peel])) (by simp only [go_sem, seval, as_, am_, hp, bm_, au_, hll])
theorem ajm_ (w : List Str) : (decide ((w.length : Int) > 0) = true → decide ((w.length : Int) > 0) = true ∧ (0 : Int) < w.length ∧ ((b6_ w).getD 0 []).length = 1) ∧ (decide ((w.length : Int) > 0) = true → (decide ((w.length : Int) > 0) = true ∧ 1 ≤ ((b6_ w).getD 0 []).length) ∧ ({ v := ((b6_ w).getD 0 []).getD 0 .no } : Eff) = { v := .s (w.getD 0 []) }) := by
 cases w with
 | nil => simp
 | cons x r => simp [b6_]
end
section
set_option maxRecDepth 100000
set_option maxHeartbeats 8000000
theorem yt_ {w : List Str} (h : smW w) : sm (ex w) = true := by
 have hS := ((i_sm 500).1 1 ⟨w, false, 0⟩ h).1
 unfold ex fl_
 split
 ·split
  ·exact (show sm E0 = true by decide)
  ·exact hS
 ·exact (show sm E0 = true by decide)
theorem kl_ : ∀ (n : Nat) (l : Str) (c : Int) (t : List Tk), fa_ n l c = some t → ∀ x ∈ t, x.s.length ≤ l.length
 | 0, l, c, t, h => by simp [fa_] at h; subst h; intro x hx; cases hx
 | n + 1, [], c, t, h => by simp [fa_] at h; subst h; intro x hx; cases hx
 | n + 1, y :: l, c, t, h => by
  simp only [fa_] at h
  split at h
  ·intro x hx; have := kl_ n l _ t h x hx; simp only [T7_]; omega
  ·split at h
   ·cases h
   ·obtain ⟨u, hu, rfl⟩ := Option.map_eq_some_iff.1 h
    intro x hx
    rcases List.mem_cons.1 hx with rfl | hx
    ·simp only [List.length_take]; omega
    ·have h1 := kl_ n _ _ u hu x hx
     rw [List.length_drop] at h1; omega
theorem t2_ (s : Str) : smW (dc_ s) ∧ (dc_ s).length ≤ 120 := by
 refine ⟨?_, by unfold dc_; rw [List.length_map]; exact p8_ s⟩
 unfold dc_
 cases h : b1_ s with
 | none => intro w hw; simp at hw
 | some t =>
  unfold b1_ at h
  split at h
  ·cases h
  ·intro w hw
   simp only [Option.getD_some] at hw
   obtain ⟨x, hx, rfl⟩ := List.mem_map.1 hw
   have := kl_ _ _ _ _ h x hx
   omega
theorem yi_ {w : List Str} (h : smW w) (k : Nat) : (w.getD k []).length ≤ 281474976710656 := by
 rw [T8_]
 cases hk : w[k]? with
 | none => simp
 | some x => exact h x (List.mem_of_getElem? hk)
theorem a5_ (s : Sl) : cq_ (sC s) = true := by rw [an_]; simp only [cq_, V.pure, it_, Bool.and_self]
theorem ad9_ {w : List Str} (h : smW w) : gz_ (rdS w) = true := by
 have g := yi_ h
 have e := fun k => yt_ (el_ h k)
 have e0 : sm E0 = true := by decide
 unfold rdS
 split
 ·simp only [gz_, e, e0, Bool.and_true, T5_, T3_]; have := g 1; have := g 3; omega
 ·split
  ·simp only [gz_, e, e0, Bool.and_true]; rfl
  ·split
   ·split
    ·simp only [gz_, e, yt_ (el_ (lh_ h _) 1), Bool.and_true]; rfl
    ·simp only [gz_, e0, Bool.and_true]; rfl
   ·decide
theorem wo_ {w : List Str} (h : (decide ((w.length : Int) > 5) && w.getD 0 [] == [108, 101, 116]) = true) : 5 < w.length ∧ w.getD 0 [] = h1_ := by
 simp only [T5_, T3_, beq_iff_eq] at h; exact ⟨by omega, h.2⟩
theorem yw_ {w : List Str} (h : (decide ((w.length : Int) > 5) && w.getD 0 [] == [108, 101, 116]) = false) : ¬ (5 < w.length ∧ w.getD 0 [] = h1_) := fun q => by
 have : (decide ((w.length : Int) > 5) && w.getD 0 [] == [108, 101, 116]) = true := by simp only [T5_, T3_, beq_iff_eq]; exact ⟨by omega, q.2⟩
 rw [this] at h; cases h
theorem ak9_ (w : List Str) (c : Bool) (hc : c = true → w ≠ []) : (c = true → c = true ∧ (0 : Int) < w.length ∧ ((b6_ w).getD 0 []).length = 1) ∧ (c = true → (c = true ∧ 1 ≤ ((b6_ w).getD 0 []).length) ∧ ({ v := ((b6_ w).getD 0 []).getD 0 .no } : Eff) = { v := .s (w.getD 0 []) }) := by
 cases w with
 | nil => exact ⟨fun h => absurd rfl (hc h), fun h => absurd rfl (hc h)⟩
 | cons x r => simp [b6_]
theorem ya_ (w : List Str) (hw : smW w) (hl : w.length ≤ 100000) : ACall En 74 [.sl false (b6_ w)] [] [.ag (sC (rdS w))] [] := by
 have hs := z1_ w b3_
 simp only [b3_] at hs
 have hsw : IntKind.i64.wrap (d2_ w [115, 97, 121] + 1) = d2_ w [115, 97, 121] + 1 := bp_ (by omega) (by omega)
 have ht : 0 < d2_ w [115, 97, 121] → (d2_ w [115, 97, 121] + 1).toNat = (d2_ w [115, 97, 121]).toNat + 1 := fun h => by omega
 refine al_ (fn := Tryz.f74) [] Tryz.func74 rfl rfl (by simp) fun C => ?_
 rw [ay_]
 simp only [Tryz.ntmps74, T7_, List.length_nil, Nat.reduceAdd, Nat.reduceSub, List.replicate_succ, List.replicate_zero, List.cons_append, List.nil_append, bs_]
 refine .seq (.rgn [] (by simp only [go_sem, seval, asO, ac_, ab_, bh_, bi_, b3_, hsw, a5_]; rfl) ?_ ?_)
 ·(first | trivial | (simp; done) | (simp [bn_]; done) | (simp [bn_]; omega))
 refine .seq (.rgn [] (by simp only [go_sem, seval, asO, ac_, ab_, bh_, bi_, b3_, hsw, a5_]; rfl) ?_ ?_)
 ·(first | trivial | (simp; done) | (simp [bn_]; done) | (simp [bn_]; omega))
 refine .seq (.block (.seq (.rgnS [12] [asO En { v := .s (w.getD 0 []) }] (by simp only [go_sem, seval, asO, ac_, ab_, bh_, bi_, b3_, hsw, a5_]; rfl) ?_ ?_)))
 ·exact ak9_ w _ (fun h e => by simp [e] at h)
 refine .condB (by simp only [go_sem, seval, asO, ac_, ab_, bh_, bi_, b3_, hsw, a5_]; rfl) (by simp only [go_sem, seval, asO, ac_, ab_, bh_, bi_, b3_, hsw, a5_]) (fun h5 => ?_) (fun h5 => ?_)
 ·refine .seq (.rgnD [] enM (by simp only [go_sem, seval, asO, ac_, ab_, bh_, bi_, b3_, hsw, a5_, cy_ (show 1 < w.length by have := wo_ h5; omega), cy_ (show 3 < w.length by have := wo_ h5; omega)]; rfl) (by rfl) ?_ ?_)
  ·have := wo_ h5; (first | omega | (simp [bn_, cb_]; omega))
  refine .rgn [a9_ (hq_ (w.drop 5) (el_ hw 5) (by simp; omega))] (by simp only [go_sem, seval, asO, ac_, ab_, bh_, bi_, b3_, hsw, a5_]; rfl) ?_ ?_
  ·have := wo_ h5; simp [bn_, ap_]; omega
  refine .seq (.rgn [] (by simp only [go_sem, seval, asO, ac_, ab_, bh_, bi_, b3_, hsw, a5_]; rfl) ?_ ?_)
  ·(first | trivial | (simp; done) | (simp [bn_]; done) | (simp [bn_]; omega))
  refine .ret ⟨.inr rfl, ?_⟩
  exact Out.plainL (by simp only [Tryz.results74]; rfl) (by simp only [az_, bj_, go_sem, seval, asO, ac_, ab_, bh_, bi_, b3_, hsw, a5_] <;> (split <;> rfl)) (by simp only [bg_, go_sem, seval, asO, ac_, ab_, bh_, bi_, b3_, hsw, a5_] <;> ((have e : rdS w = ⟨1, w.getD 1 [], w.getD 3 [], ex (w.drop 5), E0⟩ := (by unfold rdS; rw [if_pos (wo_ h5)])); rw [e, an_]; simp [les, leV, ler, ap_, k1_, ky_, k2_, eg_, fj_])) (by simp only [go_sem, seval, asO, ac_, ab_, bh_, bi_, b3_, hsw, a5_])
 ·refine .seq (.rgnS [38] [asO En { v := .s (w.getD 0 []) }] (by simp only [go_sem, seval, asO, ac_, ab_, bh_, bi_, b3_, hsw, a5_]; rfl) ?_ ?_)
  ·exact ajm_ w
  refine .condB (by simp only [go_sem, seval, asO, ac_, ab_, bh_, bi_, b3_, hsw, a5_]; rfl) (by simp only [go_sem, seval, asO, ac_, ab_, bh_, bi_, b3_, hsw, a5_]) (fun h31 => ?_) (fun h31 => ?_)
  ·refine .seq (.rgn [] (by simp only [go_sem, seval, asO, ac_, ab_, bh_, bi_, b3_, hsw, a5_]; rfl) ?_ ?_)
   ·(first | trivial | (simp; done) | (simp [bn_]; done) | (simp [bn_]; omega))
   refine .rgn [a9_ (hq_ (w.drop 1) (el_ hw 1) (by simp; omega))] (by simp only [go_sem, seval, asO, ac_, ab_, bh_, bi_, b3_, hsw, a5_]; rfl) ?_ ?_
   ·simp only [T5_, T3_] at h31; simp [bn_, ap_]; omega
   refine .seq (.rgn [] (by simp only [go_sem, seval, asO, ac_, ab_, bh_, bi_, b3_, hsw, a5_]; rfl) ?_ ?_)
   ·(first | trivial | (simp; done) | (simp [bn_]; done) | (simp [bn_]; omega))
   refine .ret ⟨.inr rfl, ?_⟩
   exact Out.plainL (by simp only [Tryz.results74]; rfl) (by simp only [az_, bj_, go_sem, seval, asO, ac_, ab_, bh_, bi_, b3_, hsw, a5_] <;> (split <;> rfl)) (by simp only [bg_, go_sem, seval, asO, ac_, ab_, bh_, bi_, b3_, hsw, a5_] <;> ((have e : rdS w = ⟨2, [], [], ex (w.drop 1), E0⟩ := (by unfold rdS; rw [if_neg (yw_ h5), if_pos (by simpa [b3_] using h31)])); rw [e, an_]; simp [les, leV, ler, ap_, k1_, ky_, k2_, eg_, fj_])) (by simp only [go_sem, seval, asO, ac_, ab_, bh_, bi_, b3_, hsw, a5_])
  ·refine .seq (.rgnS [56] [asO En { v := .s (w.getD 0 []) }] (by simp only [go_sem, seval, asO, ac_, ab_, bh_, bi_, b3_, hsw, a5_]; rfl) ?_ ?_)
   ·exact ajm_ w
   refine .condB (by simp only [go_sem, seval, asO, ac_, ab_, bh_, bi_, b3_, hsw, a5_]; rfl) (by simp only [go_sem, seval, asO, ac_, ab_, bh_, bi_, b3_, hsw, a5_]) (fun h49 => ?_) (fun h49 => ?_)
   ·refine .seq (.rgn [] (by simp only [go_sem, seval, asO, ac_, ab_, bh_, bi_, b3_, hsw, a5_]; rfl) ?_ ?_)
    ·(first | trivial | (simp; done) | (simp [bn_]; done) | (simp [bn_]; omega))
    refine .seq (.rgn [a9_ (yv_ w b3_ (by omega))] (by simp only [go_sem, seval, asO, ac_, ab_, bh_, bi_, b3_, hsw, a5_]; rfl) ?_ ?_)
    ·(first | trivial | (simp; done) | (simp [bn_]; done) | (simp [bn_]; omega))
    refine .seq (.rgn [] (by simp only [go_sem, seval, asO, ac_, ab_, bh_, bi_, b3_, hsw, a5_]; rfl) ?_ ?_)
    ·(first | trivial | (simp; done) | (simp [bn_]; done) | (simp [bn_]; omega))
    refine .condB (by simp only [go_sem, seval, asO, ac_, ab_, bh_, bi_, b3_, hsw, a5_]; rfl) (by simp only [go_sem, seval, asO, ac_, ab_, bh_, bi_, b3_, hsw, a5_]) (fun h63 => ?_) (fun h63 => ?_)
    ·refine .seq (.rgn [a9_ (hq_ ((w.take (d2_ w b3_).toNat).drop 1) (el_ (lh_ hw _) 1) (by simp; omega))] (by simp only [go_sem, seval, asO, ac_, ab_, bh_, bi_, b3_, hsw, a5_]; rfl) ?_ ?_)
     ·simp only [T3_] at h63; simp [bn_]; omega
     refine .rgn [a9_ (hq_ (w.drop ((d2_ w b3_).toNat + 1)) (el_ hw _) (by simp; omega))] (by simp only [go_sem, seval, asO, ac_, ab_, bh_, bi_, b3_, hsw, a5_, ht (by simpa using h63)]; rfl) ?_ ?_
     ·simp only [T3_] at h63; simp [bn_, ap_]; omega
     refine .seq (.rgn [] (by simp only [go_sem, seval, asO, ac_, ab_, bh_, bi_, b3_, hsw, a5_]; rfl) ?_ ?_)
     ·(first | trivial | (simp; done) | (simp [bn_]; done) | (simp [bn_]; omega))
     refine .ret ⟨.inr rfl, ?_⟩
     exact Out.plainL (by simp only [Tryz.results74]; rfl) (by simp only [az_, bj_, go_sem, seval, asO, ac_, ab_, bh_, bi_, b3_, hsw, a5_] <;> (split <;> rfl)) (by simp only [bg_, go_sem, seval, asO, ac_, ab_, bh_, bi_, b3_, hsw, a5_] <;> ((have e : rdS w = ⟨3, [], [], ex ((w.take (d2_ w b3_).toNat).drop 1), ex (w.drop ((d2_ w b3_).toNat + 1))⟩ := (by unfold rdS; rw [if_neg (yw_ h5), if_neg (by simpa [b3_] using h31), if_pos (by simpa [dt_] using h49), if_pos (by simpa [b3_] using h63)])); rw [e, an_]; simp [b3_, les, leV, ler, ap_])) (by simp only [go_sem, seval, asO, ac_, ab_, bh_, bi_, b3_, hsw, a5_])
    ·refine .skip (.seq (.rgn [] (by simp only [go_sem, seval, asO, ac_, ab_, bh_, bi_, b3_, hsw, a5_]; rfl) ?_ ?_))
     ·(first | trivial | (simp; done) | (simp [bn_]; done) | (simp [bn_]; omega))
     refine .ret ⟨.inr rfl, ?_⟩
     exact Out.plainL (by simp only [Tryz.results74]; rfl) (by simp only [az_, bj_, go_sem, seval, asO, ac_, ab_, bh_, bi_, b3_, hsw, a5_] <;> (split <;> rfl)) (by simp only [bg_, go_sem, seval, asO, ac_, ab_, bh_, bi_, b3_, hsw, a5_] <;> ((have e : rdS w = ⟨3, [], [], E0, E0⟩ := (by unfold rdS; rw [if_neg (yw_ h5), if_neg (by simpa [b3_] using h31), if_pos (by simpa [dt_] using h49), if_neg (by simpa [b3_] using h63)])); rw [e, an_]; simp [les, leV, ler, ap_, k1_, ky_, k2_, eg_, fj_])) (by simp only [go_sem, seval, asO, ac_, ab_, bh_, bi_, b3_, hsw, a5_])
   ·refine .skip (.seq (.rgn [] (by simp only [go_sem, seval, asO, ac_, ab_, bh_, bi_, b3_, hsw, a5_]; rfl) ?_ ?_))
    ·(first | trivial | (simp; done) | (simp [bn_]; done) | (simp [bn_]; omega))
    refine .ret ⟨.inr rfl, ?_⟩
    exact Out.plainL (by simp only [Tryz.results74]; rfl) (by simp only [az_, bj_, go_sem, seval, asO, ac_, ab_, bh_, bi_, b3_, hsw, a5_] <;> (split <;> rfl)) (by simp only [bg_, go_sem, seval, asO, ac_, ab_, bh_, bi_, b3_, hsw, a5_] <;> ((have e : rdS w = S0 := (by unfold rdS; rw [if_neg (yw_ h5), if_neg (by simpa [b3_] using h31), if_neg (by simpa [dt_] using h49)])); rw [e, an_]; simp [S0, les, leV, ler, ap_, k1_, ky_, k2_, eg_, fj_])) (by simp only [go_sem, seval, asO, ac_, ab_, bh_, bi_, b3_, hsw, a5_])
theorem qf_ {line : Str} (h : ¬ ((b1_ line).isSome = true ∧ sok (rdS (dc_ line)) = true ∧ wv_ (rdS (dc_ line)) = line)) : dm_ line = none := by
 unfold dm_ dc_ at *
 cases ht : b1_ line with
 | none => rfl
 | some ts =>
  rw [ht] at h
  simp only [Option.getD_some] at h
  dsimp only
  rw [if_neg]
  rintro ⟨h1, h2⟩
  exact h ⟨rfl, h1, by unfold wv_; rw [if_pos h1]; exact h2⟩
theorem pk_ {line : Str} (h : (b1_ line).isSome = true) (h1 : sok (rdS (dc_ line)) = true) (h2 : wv_ (rdS (dc_ line)) = line) : dm_ line = some (rdS (dc_ line)) := by
 unfold dm_ dc_ at *
 cases ht : b1_ line with
 | none => rw [ht] at h; cases h
 | some ts =>
  rw [ht] at h1 h2
  simp only [Option.getD_some] at h1 h2 ⊢
  rw [if_pos ⟨h1, by unfold wv_ at h2; rw [if_pos h1] at h2; exact h2⟩]
theorem wc_ (line : Str) (hl : line.length ≤ 281474976710656) : ACall En 16 [.s line] [] [.ag (sC ((dm_ line).getD S0)), .b (dm_ line).isSome] [] := by
 obtain ⟨w1, w2⟩ := t2_ line
 have hs := ad9_ w1
 refine al_ (fn := Tryz.f16) [] Tryz.func16 rfl rfl (by simp) fun C => ?_
 rw [ay_]
 simp only [Tryz.ntmps16, T7_, List.length_nil, Nat.reduceAdd, Nat.reduceSub, List.replicate_succ, List.replicate_zero, List.cons_append, List.nil_append, bs_]
 refine .seq (.rgn [] (by simp only [go_sem, seval, ab_, a5_, an_]; rfl) ?_ ?_)
 ·first | trivial | simp
 refine .seq (.rgn [a9_ (aa6_ line hl)] (by simp only [go_sem, seval, ab_, a5_, an_]; rfl) ?_ ?_)
 ·first | trivial | simp
 refine .seq (.rgn [a9_ (ya_ (dc_ line) w1 (by omega))] (by simp only [go_sem, seval, ab_, a5_, an_]; rfl) ?_ ?_)
 ·first | trivial | simp
 refine .seq (.seq (.rgn [a9_ (q4_ (rdS (dc_ line)) hs), a9_ (vh_ (rdS (dc_ line)) hs)] (by simp only [go_sem, seval, ab_, a5_, an_]; rfl) ?_ ?_))
 ·first | trivial | simp
 refine .condB (by simp only [go_sem, seval, ab_, a5_, an_]; rfl) (by simp only [go_sem, seval, ab_, a5_, an_]) (fun h26 => ?_) (fun h26 => ?_)
 ·refine .seq (.rgn [] (by simp only [go_sem, seval, ab_, a5_, an_]; rfl) ?_ ?_)
  ·first | trivial | simp
  refine .ret ⟨.inr rfl, ?_⟩
  exact Out.plainL (by simp only [Tryz.results16]; rfl) (by simp only [az_, bj_, go_sem, seval, ab_, a5_, an_] <;> (split <;> rfl)) (by simp only [bg_, go_sem, seval, ab_, a5_, an_] <;> (rw [qf_ (by intro q; simp [q.1, q.2.1, q.2.2] at h26)]; simp [S0, les, leV, ler, ap_, k1_, ky_, k2_, eg_, fj_])) (by simp only [go_sem, seval, ab_, a5_, an_])
 ·refine .skip (.seq (.rgn [] (by simp only [go_sem, seval, ab_, a5_, an_]; rfl) ?_ ?_))
  ·first | trivial | simp
  refine .ret ⟨.inr rfl, ?_⟩
  exact Out.plainL (by simp only [Tryz.results16]; rfl) (by simp only [az_, bj_, go_sem, seval, ab_, a5_, an_] <;> (split <;> rfl)) (by simp only [bg_, go_sem, seval, ab_, a5_, an_] <;> (rw [pk_ (by simp at h26; exact h26.1.1) (by simp at h26; exact h26.1.2) (by simp at h26; exact h26.2)]; simp [les, leV, ler, ap_])) (by simp only [go_sem, seval, ab_, a5_, an_])
end
end Go.Proofs.YtcigkafioinfoaaGreatDoor
