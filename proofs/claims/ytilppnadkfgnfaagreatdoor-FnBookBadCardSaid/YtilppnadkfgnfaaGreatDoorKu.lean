/- Lines are read: the program's. Conditions: none. -/
import Derived.Test.YtilppnadkfgnfaaGreatDoorKt
import Derived.Test.YtilppnadkfgnfaaGreatDoorKn
import Derived.Test.YtilppnadkfgnfaaGreatDoorKl
set_option linter.unusedVariables false
set_option linter.unusedSimpArgs false
namespace Go.Proofs.YtilppnadkfgnfaaGreatDoor
section
set_option maxRecDepth 100000
set_option maxHeartbeats 8000000
theorem ba_ (l : List Str) (k : Nat) : (bn_ l).drop k = bn_ (l.drop k) := by simp [bn_, List.map_drop]
theorem a9_ (l : List Str) (k : Nat) : (bn_ l).take k = bn_ (l.take k) := by simp [bn_, List.map_take]
theorem d3_ {l : List Str} (h : smW l) (k : Nat) : smW (l.drop k) := fun w hw => h w (List.mem_of_mem_drop hw)
theorem kz_ {l : List Str} (h : smW l) (k : Nat) : smW (l.take k) := fun w hw => h w (List.mem_of_mem_take hw)
def cz_ (s : Str) : List Str := ((br_ s).getD []).map (·.s)
theorem my_ : ∀ (n : Nat) (l : Str) (c : Int) (t : List Tk), ex_ n l c = some t → t.length ≤ l.length
 | 0, l, c, t, h => by simp [ex_] at h; subst h; simp
 | n + 1, [], c, t, h => by simp [ex_] at h; subst h; simp
 | n + 1, x :: l, c, t, h => by
  simp only [ex_] at h
  split at h
  ·have := my_ n l _ t h; simp only [T7_]; omega
  ·split at h
   ·cases h
   ·obtain ⟨u, hu, rfl⟩ := Option.map_eq_some_iff.1 h
    have h1 := my_ n _ _ u hu
    have h2 := lq_ (x :: l)
    rw [List.length_drop] at h1
    simp only [T7_] at h1 ⊢; omega
theorem pe_ (s : Str) : ((br_ s).getD []).length ≤ 120 := by
 cases h : br_ s with
 | none => simp
 | some t =>
  unfold br_ at h
  split at h
  ·cases h
  ·have := my_ _ _ _ _ h; simp only [Option.getD_some]; omega
theorem zy_ (l : List Str) (s : Str) : -1 ≤ do_ l s ∧ do_ l s < l.length := by
 unfold do_
 split
 ·rename_i h
  have := List.idxOf_lt_length_iff.2 h
  omega
 ·omega
theorem aa4_ (s : Str) (hs : s.length ≤ 281474976710656) : ACall En 71 [.s s] [] [.sl false (bn_ (cz_ s)), .b (br_ s).isSome] [] := by
 have T := sh_ s hs
 have hb := pe_ s
 unfold cz_
 generalize (br_ s).getD [] = ts at *
 have hp : ∀ k, b4_ (eh_ (bn_ (ts.map (·.s))) [.s []] k) = true := fun k => gy_ (aa_ _) rfl
 have hll : (bn_ (ts.map (·.s))).length = ts.length := by simp [bn_]
 refine al_ (fn := Tryz.f71) [] Tryz.func71 rfl rfl (by simp) fun C => ?_
 rw [ay_]
 simp only [Tryz.ntmps71, T7_, List.length_nil, Nat.reduceAdd, Nat.reduceSub, List.replicate_succ, List.replicate_zero, List.cons_append, List.nil_append, bp_]
 refine .seq (.rgn [] (by simp only [go_sem, seval, at_, an_, hp, a2_, aw_, hll]; rfl) ?_ ?_)
 ·first | trivial | simp
 refine .seq (.rgn [a4_ T] (by simp only [go_sem, seval, at_, an_, hp, a2_, aw_, hll]; rfl) ?_ ?_)
 ·first | trivial | simp
 refine .seq (.rgn [] (by simp only [go_sem, seval, at_, an_, hp, a2_, aw_, hll]; rfl) ?_ ?_)
 ·simp; omega
 refine .seq (.seq (.rgn [] (by simp only [go_sem, seval, at_, an_, hp, a2_, aw_, hll]; rfl) ?_ ?_))
 ·first | trivial | simp
 refine .block (.loopK (fun k : Nat => ⟨[.no, .no, .no, .no, .no, .b (br_ s).isSome, .ow 26 1 0 ts.length, .no, .no, .no, .no, .no, .no, .no, .no, .no, .no, .sl false (tkR ts), .i .i64 ts.length, .i .i64 k, .no, .no, .no, .no, .no, .no, .no, .no, .no, .no, .no, .no], bc_ [(26, ⟨9, 1, eh_ (bn_ (ts.map (·.s))) [.s []] k⟩)], us [26]⟩) (fun k : Nat => k ≤ ts.length) (fun k : Nat => ts.length - k) (0) ?_ ?_ (fun k hI => ?_))
 ·simp
 ·exact Can.weak (Weak.lit (by simp only [go_sem, seval, at_, an_, hp, a2_, aw_, hll, as_, leV, aq_, ar_, V.inn, us, T9_, Ta_] <;> (simp)) (by simp only [go_sem, seval, at_, an_, hp, a2_, aw_, hll, as_, leV, aq_, ar_, V.inn, us, T9_, Ta_]) (by simp only [go_sem, seval, at_, an_, hp, a2_, aw_, hll, as_, leV, aq_, ar_, V.inn, us, T9_, Ta_] <;> (simp [gx_, hll])))
 refine .seq (.rgn [] (by simp only [go_sem, seval, at_, an_, hp, a2_, aw_, hll]; rfl) ?_ ?_)
 ·first | trivial | simp
 refine .seq (.condB (by simp only [go_sem, seval, at_, an_, hp, a2_, aw_, hll]; rfl) (by simp only [go_sem, seval, at_, an_, hp, a2_, aw_, hll]) (fun h20 => ?_) (fun h20 => ?_))
 ·refine .skip (.seq (.block (.seq (.rgn [] (by simp only [go_sem, seval, at_, an_, hp, a2_, aw_, hll, n6_ (show k < ts.length by simpa using h20)]; rfl) ?_ ?_))))
  ·simp at h20; simp; omega
  refine .rgn [] (by simp only [go_sem, seval, at_, an_, hp, a2_, aw_, hll]; rfl) ?_ ?_
  ·simp at h20; simp; omega
  refine .rgn [] (by simp only [go_sem, seval, at_, an_, hp, a2_, aw_, hll]; rfl) ?_ ?_
  ·first | trivial | simp
  refine Exists.intro (k + 1) ⟨?_, ?_, ?_⟩
  ·simp at h20; omega
  ·simp at h20; omega
  exact Can.weak (Weak.lit (by simp only [go_sem, seval, at_, an_, hp, a2_, aw_, hll, as_, leV, aq_, ar_, V.inn, us, T9_, Ta_] <;> (rw [bf_ (by simp at h20; omega) (by simp at h20; omega)]; simp)) (by simp only [go_sem, seval, at_, an_, hp, a2_, aw_, hll, as_, leV, aq_, ar_, V.inn, us, T9_, Ta_]) (by simp only [go_sem, seval, at_, an_, hp, a2_, aw_, hll, as_, leV, aq_, ar_, V.inn, us, T9_, Ta_] <;> ((rw [← hd_ (by rw [hll]; simpa using h20), b6_ (by simpa using h20)]; simp [T8_, T6_ (show k < ts.length by simpa using h20)]))))
 ·refine .exit (.seq (.rgn [] (by simp only [go_sem, seval, at_, an_, hp, a2_, aw_, hll]; rfl) ?_ ?_))
  ·first | trivial | simp
  refine .frz 26 (by simp only [go_sem, seval, at_, an_, hp, a2_, aw_, hll]; rfl) (by simp only [go_sem, seval, at_, an_, hp, a2_, aw_, hll]) (by simp only [go_sem, seval, at_, an_, hp, a2_, aw_, hll]; rfl) (by simp only [go_sem, seval, at_, an_, hp, a2_, aw_, hll]; rfl) ?_
  refine .ret ⟨.inr rfl, ?_⟩
  exact Out.plain (by simp only [Tryz.results71]; rfl) (by simp only [az_, a7_, go_sem, seval, at_, an_, hp, a2_, aw_, hll] <;> (split <;> rfl)) (by simp only [a5_, go_sem, seval, at_, an_, hp, a2_, aw_, hll] <;> (simp at h20; rw [id_ (by omega)]; simp [← hll, T1_, peel])) (by simp only [go_sem, seval, at_, an_, hp, a2_, aw_, hll])
theorem ajh_ (w : List Str) : (decide ((w.length : Int) > 0) = true → decide ((w.length : Int) > 0) = true ∧ (0 : Int) < w.length ∧ ((bn_ w).getD 0 []).length = 1) ∧ (decide ((w.length : Int) > 0) = true → (decide ((w.length : Int) > 0) = true ∧ 1 ≤ ((bn_ w).getD 0 []).length) ∧ ({ v := ((bn_ w).getD 0 []).getD 0 .no } : Eff) = { v := .s (w.getD 0 []) }) := by
 cases w with
 | nil => simp
 | cons x r => simp [bn_]
end
section
set_option maxRecDepth 100000
set_option maxHeartbeats 8000000
theorem za_ {w : List Str} (h : smW w) : sm (ex w) = true := by
 have hS := ((i_sm 500).1 1 ⟨w, false, 0⟩ h).1
 unfold ex fg_
 split
 ·split
  ·exact (show sm E0 = true by decide)
  ·exact hS
 ·exact (show sm E0 = true by decide)
theorem kg_ : ∀ (n : Nat) (l : Str) (c : Int) (t : List Tk), ex_ n l c = some t → ∀ x ∈ t, x.s.length ≤ l.length
 | 0, l, c, t, h => by simp [ex_] at h; subst h; intro x hx; cases hx
 | n + 1, [], c, t, h => by simp [ex_] at h; subst h; intro x hx; cases hx
 | n + 1, y :: l, c, t, h => by
  simp only [ex_] at h
  split at h
  ·intro x hx; have := kg_ n l _ t h x hx; simp only [T7_]; omega
  ·split at h
   ·cases h
   ·obtain ⟨u, hu, rfl⟩ := Option.map_eq_some_iff.1 h
    intro x hx
    rcases List.mem_cons.1 hx with rfl | hx
    ·simp only [List.length_take]; omega
    ·have h1 := kg_ n _ _ u hu x hx
     rw [List.length_drop] at h1; omega
theorem sp_ (s : Str) : smW (cz_ s) ∧ (cz_ s).length ≤ 120 := by
 refine ⟨?_, by unfold cz_; rw [List.length_map]; exact pe_ s⟩
 unfold cz_
 cases h : br_ s with
 | none => intro w hw; simp at hw
 | some t =>
  unfold br_ at h
  split at h
  ·cases h
  ·intro w hw
   simp only [Option.getD_some] at hw
   obtain ⟨x, hx, rfl⟩ := List.mem_map.1 hw
   have := kg_ _ _ _ _ h x hx
   omega
theorem zz_ {w : List Str} (h : smW w) (k : Nat) : (w.getD k []).length ≤ 281474976710656 := by
 rw [T8_]
 cases hk : w[k]? with
 | none => simp
 | some x => exact h x (List.mem_of_getElem? hk)
theorem a3_ (s : Sl) : cf_ (sC s) = true := by rw [ak_]; simp only [cf_, V.pure, iy_, Bool.and_self]
theorem afh_ {w : List Str} (h : smW w) : ep_ (rdS w) = true := by
 have g := zz_ h
 have e := fun k => za_ (d3_ h k)
 have e0 : sm E0 = true := by decide
 unfold rdS
 split
 ·simp only [ep_, e, e0, Bool.and_true, T5_, T3_]; have := g 1; have := g 3; omega
 ·split
  ·simp only [ep_, e, e0, Bool.and_true]; rfl
  ·split
   ·split
    ·simp only [ep_, e, za_ (d3_ (kz_ h _) 1), Bool.and_true]; rfl
    ·simp only [ep_, e0, Bool.and_true]; rfl
   ·decide
theorem vm_ {w : List Str} (h : (decide ((w.length : Int) > 5) && w.getD 0 [] == [108, 101, 116]) = true) : 5 < w.length ∧ w.getD 0 [] = hs_ := by
 simp only [T5_, T3_, beq_iff_eq] at h; exact ⟨by omega, h.2⟩
theorem yr_ {w : List Str} (h : (decide ((w.length : Int) > 5) && w.getD 0 [] == [108, 101, 116]) = false) : ¬ (5 < w.length ∧ w.getD 0 [] = hs_) := fun q => by
 have : (decide ((w.length : Int) > 5) && w.getD 0 [] == [108, 101, 116]) = true := by simp only [T5_, T3_, beq_iff_eq]; exact ⟨by omega, q.2⟩
 rw [this] at h; cases h
theorem ak9_ (w : List Str) (c : Bool) (hc : c = true → w ≠ []) : (c = true → c = true ∧ (0 : Int) < w.length ∧ ((bn_ w).getD 0 []).length = 1) ∧ (c = true → (c = true ∧ 1 ≤ ((bn_ w).getD 0 []).length) ∧ ({ v := ((bn_ w).getD 0 []).getD 0 .no } : Eff) = { v := .s (w.getD 0 []) }) := by
 cases w with
 | nil => exact ⟨fun h => absurd rfl (hc h), fun h => absurd rfl (hc h)⟩
 | cons x r => simp [bn_]
theorem x1_ (w : List Str) (hw : smW w) (hl : w.length ≤ 100000) : ACall En 72 [.sl false (bn_ w)] [] [.ag (sC (rdS w))] [] := by
 have hs := zy_ w bs_
 simp only [bs_] at hs
 have hsw : IntKind.i64.wrap (do_ w [115, 97, 121] + 1) = do_ w [115, 97, 121] + 1 := bf_ (by omega) (by omega)
 have ht : 0 < do_ w [115, 97, 121] → (do_ w [115, 97, 121] + 1).toNat = (do_ w [115, 97, 121]).toNat + 1 := fun h => by omega
 refine al_ (fn := Tryz.f72) [] Tryz.func72 rfl rfl (by simp) fun C => ?_
 rw [ay_]
 simp only [Tryz.ntmps72, T7_, List.length_nil, Nat.reduceAdd, Nat.reduceSub, List.replicate_succ, List.replicate_zero, List.cons_append, List.nil_append, bp_]
 refine .seq (.rgn [] (by simp only [go_sem, seval, asO, ab_, aa_, ba_, a9_, bs_, hsw, a3_]; rfl) ?_ ?_)
 ·(first | trivial | (simp; done) | (simp [be_]; done) | (simp [be_]; omega))
 refine .seq (.rgn [] (by simp only [go_sem, seval, asO, ab_, aa_, ba_, a9_, bs_, hsw, a3_]; rfl) ?_ ?_)
 ·(first | trivial | (simp; done) | (simp [be_]; done) | (simp [be_]; omega))
 refine .seq (.block (.seq (.rgnS [12] [asO En { v := .s (w.getD 0 []) }] (by simp only [go_sem, seval, asO, ab_, aa_, ba_, a9_, bs_, hsw, a3_]; rfl) ?_ ?_)))
 ·exact ak9_ w _ (fun h e => by simp [e] at h)
 refine .condB (by simp only [go_sem, seval, asO, ab_, aa_, ba_, a9_, bs_, hsw, a3_]; rfl) (by simp only [go_sem, seval, asO, ab_, aa_, ba_, a9_, bs_, hsw, a3_]) (fun h5 => ?_) (fun h5 => ?_)
 ·refine .seq (.rgnD [] enM (by simp only [go_sem, seval, asO, ab_, aa_, ba_, a9_, bs_, hsw, a3_, b6_ (show 1 < w.length by have := vm_ h5; omega), b6_ (show 3 < w.length by have := vm_ h5; omega)]; rfl) (by rfl) ?_ ?_)
  ·have := vm_ h5; (first | omega | (simp [be_, bx_]; omega))
  refine .rgn [a4_ (hj_ (w.drop 5) (d3_ hw 5) (by simp; omega))] (by simp only [go_sem, seval, asO, ab_, aa_, ba_, a9_, bs_, hsw, a3_]; rfl) ?_ ?_
  ·have := vm_ h5; simp [be_, bd_]; omega
  refine .seq (.rgn [] (by simp only [go_sem, seval, asO, ab_, aa_, ba_, a9_, bs_, hsw, a3_]; rfl) ?_ ?_)
  ·(first | trivial | (simp; done) | (simp [be_]; done) | (simp [be_]; omega))
  refine .ret ⟨.inr rfl, ?_⟩
  exact Out.plainL (by simp only [Tryz.results72]; rfl) (by simp only [az_, a7_, go_sem, seval, asO, ab_, aa_, ba_, a9_, bs_, hsw, a3_] <;> (split <;> rfl)) (by simp only [a5_, go_sem, seval, asO, ab_, aa_, ba_, a9_, bs_, hsw, a3_] <;> ((have e : rdS w = ⟨1, w.getD 1 [], w.getD 3 [], ex (w.drop 5), E0⟩ := (by unfold rdS; rw [if_pos (vm_ h5)])); rw [e, ak_]; simp [les, leV, ler, bd_, in_, ik_, ix_, db_, dx_])) (by simp only [go_sem, seval, asO, ab_, aa_, ba_, a9_, bs_, hsw, a3_])
 ·refine .seq (.rgnS [38] [asO En { v := .s (w.getD 0 []) }] (by simp only [go_sem, seval, asO, ab_, aa_, ba_, a9_, bs_, hsw, a3_]; rfl) ?_ ?_)
  ·exact ajh_ w
  refine .condB (by simp only [go_sem, seval, asO, ab_, aa_, ba_, a9_, bs_, hsw, a3_]; rfl) (by simp only [go_sem, seval, asO, ab_, aa_, ba_, a9_, bs_, hsw, a3_]) (fun h31 => ?_) (fun h31 => ?_)
  ·refine .seq (.rgn [] (by simp only [go_sem, seval, asO, ab_, aa_, ba_, a9_, bs_, hsw, a3_]; rfl) ?_ ?_)
   ·(first | trivial | (simp; done) | (simp [be_]; done) | (simp [be_]; omega))
   refine .rgn [a4_ (hj_ (w.drop 1) (d3_ hw 1) (by simp; omega))] (by simp only [go_sem, seval, asO, ab_, aa_, ba_, a9_, bs_, hsw, a3_]; rfl) ?_ ?_
   ·simp only [T5_, T3_] at h31; simp [be_, bd_]; omega
   refine .seq (.rgn [] (by simp only [go_sem, seval, asO, ab_, aa_, ba_, a9_, bs_, hsw, a3_]; rfl) ?_ ?_)
   ·(first | trivial | (simp; done) | (simp [be_]; done) | (simp [be_]; omega))
   refine .ret ⟨.inr rfl, ?_⟩
   exact Out.plainL (by simp only [Tryz.results72]; rfl) (by simp only [az_, a7_, go_sem, seval, asO, ab_, aa_, ba_, a9_, bs_, hsw, a3_] <;> (split <;> rfl)) (by simp only [a5_, go_sem, seval, asO, ab_, aa_, ba_, a9_, bs_, hsw, a3_] <;> ((have e : rdS w = ⟨2, [], [], ex (w.drop 1), E0⟩ := (by unfold rdS; rw [if_neg (yr_ h5), if_pos (by simpa [bs_] using h31)])); rw [e, ak_]; simp [les, leV, ler, bd_, in_, ik_, ix_, db_, dx_])) (by simp only [go_sem, seval, asO, ab_, aa_, ba_, a9_, bs_, hsw, a3_])
  ·refine .seq (.rgnS [56] [asO En { v := .s (w.getD 0 []) }] (by simp only [go_sem, seval, asO, ab_, aa_, ba_, a9_, bs_, hsw, a3_]; rfl) ?_ ?_)
   ·exact ajh_ w
   refine .condB (by simp only [go_sem, seval, asO, ab_, aa_, ba_, a9_, bs_, hsw, a3_]; rfl) (by simp only [go_sem, seval, asO, ab_, aa_, ba_, a9_, bs_, hsw, a3_]) (fun h49 => ?_) (fun h49 => ?_)
   ·refine .seq (.rgn [] (by simp only [go_sem, seval, asO, ab_, aa_, ba_, a9_, bs_, hsw, a3_]; rfl) ?_ ?_)
    ·(first | trivial | (simp; done) | (simp [be_]; done) | (simp [be_]; omega))
    refine .seq (.rgn [a4_ (yt_ w bs_ (by omega))] (by simp only [go_sem, seval, asO, ab_, aa_, ba_, a9_, bs_, hsw, a3_]; rfl) ?_ ?_)
    ·(first | trivial | (simp; done) | (simp [be_]; done) | (simp [be_]; omega))
    refine .seq (.rgn [] (by simp only [go_sem, seval, asO, ab_, aa_, ba_, a9_, bs_, hsw, a3_]; rfl) ?_ ?_)
    ·(first | trivial | (simp; done) | (simp [be_]; done) | (simp [be_]; omega))
    refine .condB (by simp only [go_sem, seval, asO, ab_, aa_, ba_, a9_, bs_, hsw, a3_]; rfl) (by simp only [go_sem, seval, asO, ab_, aa_, ba_, a9_, bs_, hsw, a3_]) (fun h63 => ?_) (fun h63 => ?_)
    ·refine .seq (.rgn [a4_ (hj_ ((w.take (do_ w bs_).toNat).drop 1) (d3_ (kz_ hw _) 1) (by simp; omega))] (by simp only [go_sem, seval, asO, ab_, aa_, ba_, a9_, bs_, hsw, a3_]; rfl) ?_ ?_)
     ·simp only [T3_] at h63; simp [be_]; omega
     refine .rgn [a4_ (hj_ (w.drop ((do_ w bs_).toNat + 1)) (d3_ hw _) (by simp; omega))] (by simp only [go_sem, seval, asO, ab_, aa_, ba_, a9_, bs_, hsw, a3_, ht (by simpa using h63)]; rfl) ?_ ?_
     ·simp only [T3_] at h63; simp [be_, bd_]; omega
     refine .seq (.rgn [] (by simp only [go_sem, seval, asO, ab_, aa_, ba_, a9_, bs_, hsw, a3_]; rfl) ?_ ?_)
     ·(first | trivial | (simp; done) | (simp [be_]; done) | (simp [be_]; omega))
     refine .ret ⟨.inr rfl, ?_⟩
     exact Out.plainL (by simp only [Tryz.results72]; rfl) (by simp only [az_, a7_, go_sem, seval, asO, ab_, aa_, ba_, a9_, bs_, hsw, a3_] <;> (split <;> rfl)) (by simp only [a5_, go_sem, seval, asO, ab_, aa_, ba_, a9_, bs_, hsw, a3_] <;> ((have e : rdS w = ⟨3, [], [], ex ((w.take (do_ w bs_).toNat).drop 1), ex (w.drop ((do_ w bs_).toNat + 1))⟩ := (by unfold rdS; rw [if_neg (yr_ h5), if_neg (by simpa [bs_] using h31), if_pos (by simpa [dh_] using h49), if_pos (by simpa [bs_] using h63)])); rw [e, ak_]; simp [bs_, les, leV, ler, bd_])) (by simp only [go_sem, seval, asO, ab_, aa_, ba_, a9_, bs_, hsw, a3_])
    ·refine .skip (.seq (.rgn [] (by simp only [go_sem, seval, asO, ab_, aa_, ba_, a9_, bs_, hsw, a3_]; rfl) ?_ ?_))
     ·(first | trivial | (simp; done) | (simp [be_]; done) | (simp [be_]; omega))
     refine .ret ⟨.inr rfl, ?_⟩
     exact Out.plainL (by simp only [Tryz.results72]; rfl) (by simp only [az_, a7_, go_sem, seval, asO, ab_, aa_, ba_, a9_, bs_, hsw, a3_] <;> (split <;> rfl)) (by simp only [a5_, go_sem, seval, asO, ab_, aa_, ba_, a9_, bs_, hsw, a3_] <;> ((have e : rdS w = ⟨3, [], [], E0, E0⟩ := (by unfold rdS; rw [if_neg (yr_ h5), if_neg (by simpa [bs_] using h31), if_pos (by simpa [dh_] using h49), if_neg (by simpa [bs_] using h63)])); rw [e, ak_]; simp [les, leV, ler, bd_, in_, ik_, ix_, db_, dx_])) (by simp only [go_sem, seval, asO, ab_, aa_, ba_, a9_, bs_, hsw, a3_])
   ·refine .skip (.seq (.rgn [] (by simp only [go_sem, seval, asO, ab_, aa_, ba_, a9_, bs_, hsw, a3_]; rfl) ?_ ?_))
    ·(first | trivial | (simp; done) | (simp [be_]; done) | (simp [be_]; omega))
    refine .ret ⟨.inr rfl, ?_⟩
    exact Out.plainL (by simp only [Tryz.results72]; rfl) (by simp only [az_, a7_, go_sem, seval, asO, ab_, aa_, ba_, a9_, bs_, hsw, a3_] <;> (split <;> rfl)) (by simp only [a5_, go_sem, seval, asO, ab_, aa_, ba_, a9_, bs_, hsw, a3_] <;> ((have e : rdS w = S0 := (by unfold rdS; rw [if_neg (yr_ h5), if_neg (by simpa [bs_] using h31), if_neg (by simpa [dh_] using h49)])); rw [e, ak_]; simp [S0, les, leV, ler, bd_, in_, ik_, ix_, db_, dx_])) (by simp only [go_sem, seval, asO, ab_, aa_, ba_, a9_, bs_, hsw, a3_])
theorem pm_ {line : Str} (h : ¬ ((br_ line).isSome = true ∧ sok (rdS (cz_ line)) = true ∧ d7_ (rdS (cz_ line)) = line)) : c6_ line = none := by
 unfold c6_ cz_ at *
 cases ht : br_ line with
 | none => rfl
 | some ts =>
  rw [ht] at h
  simp only [Option.getD_some] at h
  dsimp only
  rw [if_neg]
  rintro ⟨h1, h2⟩
  exact h ⟨rfl, h1, by unfold d7_; rw [if_pos h1]; exact h2⟩
theorem ov_ {line : Str} (h : (br_ line).isSome = true) (h1 : sok (rdS (cz_ line)) = true) (h2 : d7_ (rdS (cz_ line)) = line) : c6_ line = some (rdS (cz_ line)) := by
 unfold c6_ cz_ at *
 cases ht : br_ line with
 | none => rw [ht] at h; cases h
 | some ts =>
  rw [ht] at h1 h2
  simp only [Option.getD_some] at h1 h2 ⊢
  rw [if_pos ⟨h1, by unfold d7_ at h2; rw [if_pos h1] at h2; exact h2⟩]
theorem vu_ (line : Str) (hl : line.length ≤ 281474976710656) : ACall En 29 [.s line] [] [.ag (sC ((c6_ line).getD S0)), .b (c6_ line).isSome] [] := by
 obtain ⟨w1, w2⟩ := sp_ line
 have hs := afh_ w1
 refine al_ (fn := Tryz.f29) [] Tryz.func29 rfl rfl (by simp) fun C => ?_
 rw [ay_]
 simp only [Tryz.ntmps29, T7_, List.length_nil, Nat.reduceAdd, Nat.reduceSub, List.replicate_succ, List.replicate_zero, List.cons_append, List.nil_append, bp_]
 refine .seq (.rgn [] (by simp only [go_sem, seval, aa_, a3_, ak_]; rfl) ?_ ?_)
 ·first | trivial | simp
 refine .seq (.rgn [a4_ (aa4_ line hl)] (by simp only [go_sem, seval, aa_, a3_, ak_]; rfl) ?_ ?_)
 ·first | trivial | simp
 refine .seq (.rgn [a4_ (x1_ (cz_ line) w1 (by omega))] (by simp only [go_sem, seval, aa_, a3_, ak_]; rfl) ?_ ?_)
 ·first | trivial | simp
 refine .seq (.seq (.rgn [a4_ (r3_ (rdS (cz_ line)) hs), a4_ (wd_ (rdS (cz_ line)) hs)] (by simp only [go_sem, seval, aa_, a3_, ak_]; rfl) ?_ ?_))
 ·first | trivial | simp
 refine .condB (by simp only [go_sem, seval, aa_, a3_, ak_]; rfl) (by simp only [go_sem, seval, aa_, a3_, ak_]) (fun h26 => ?_) (fun h26 => ?_)
 ·refine .seq (.rgn [] (by simp only [go_sem, seval, aa_, a3_, ak_]; rfl) ?_ ?_)
  ·first | trivial | simp
  refine .ret ⟨.inr rfl, ?_⟩
  exact Out.plainL (by simp only [Tryz.results29]; rfl) (by simp only [az_, a7_, go_sem, seval, aa_, a3_, ak_] <;> (split <;> rfl)) (by simp only [a5_, go_sem, seval, aa_, a3_, ak_] <;> (rw [pm_ (by intro q; simp [q.1, q.2.1, q.2.2] at h26)]; simp [S0, les, leV, ler, bd_, in_, ik_, ix_, db_, dx_])) (by simp only [go_sem, seval, aa_, a3_, ak_])
 ·refine .skip (.seq (.rgn [] (by simp only [go_sem, seval, aa_, a3_, ak_]; rfl) ?_ ?_))
  ·first | trivial | simp
  refine .ret ⟨.inr rfl, ?_⟩
  exact Out.plainL (by simp only [Tryz.results29]; rfl) (by simp only [az_, a7_, go_sem, seval, aa_, a3_, ak_] <;> (split <;> rfl)) (by simp only [a5_, go_sem, seval, aa_, a3_, ak_] <;> (rw [ov_ (by simp at h26; exact h26.1.1) (by simp at h26; exact h26.1.2) (by simp at h26; exact h26.2)]; simp [les, leV, ler, bd_])) (by simp only [go_sem, seval, aa_, a3_, ak_])
end
end Go.Proofs.YtilppnadkfgnfaaGreatDoor
