/- Whence the words of a program came, plainly. Conditions: none. -/
import Derived.Test.YtefmbmafdgedmaaGreatDoorMy
import Derived.Test.YtefmbmafdgedmaaGreatDoorMo
import Derived.Test.YtefmbmafdgedmaaGreatDoorMn
import Derived.Test.YtefmbmafdgedmaaGreatDoorMq
import Derived.Test.YtefmbmafdgedmaaGreatDoorMr
set_option linter.unusedVariables false
set_option linter.unusedSimpArgs false
namespace Go.Proofs.YtefmbmafdgedmaaGreatDoor
section
abbrev Sg := Int × Int × Int × Int
def sgC (s : Sg) : List V := [.i .i64 s.1, .i .i64 s.2.1, .i .i64 s.2.2.1, .i .i64 s.2.2.2]
def sgR (l : List Sg) : List (List V) := l.map sgC
def G0 : Sg := (0, 0, 0, 0)
theorem an_ (l : List Sg) : (sgR l).length = l.length := by simp [sgR]
theorem af_ : ∀ l : List Sg, b4_ (sgR l) = true
 | [] => rfl
 | _ :: r => by show (cr_ [_, _, _, _] && b4_ (sgR r)) = true; rw [af_ r]; rfl
theorem ud_ (a b : List Sg) : sgR (a ++ b) = sgR a ++ sgR b := by simp [sgR]
theorem ab3_ {l : List Sg} {k : Nat} (h : k < l.length) : (sgR l).getD k [] = sgC (l.getD k G0) := by
 simp [sgR, List.getD_eq_getElem?_getD, List.getElem?_eq_getElem h]
theorem bz_ (l : List Sg) : (∀ r, r ∈ sgR l → r.length = 4) = True := eq_true fun r hr => by obtain ⟨t, _, rfl⟩ := List.mem_map.1 hr; rfl
def T0k : Tk := ⟨0, [], 0⟩
def sg1 (line : Int) (x : Tk × Int) : Option Sg := if 0 ≤ x.2 then some (line, x.1.col, line, x.2) else none
def sgs (line : Int) (ts : List Tk) (fs : List Int) : List Sg := (ts.zip fs).filterMap (sg1 line)
def sgK (line : Int) (ts : List Tk) (fs : List Int) (k : Nat) : List Sg := ((ts.zip fs).take k).filterMap (sg1 line)
theorem hc_ (line : Int) (ts : List Tk) (fs : List Int) : sgK line ts fs 0 = [] := rfl
theorem cj_ {line : Int} {ts : List Tk} {fs : List Int} {k : Nat} (h1 : k < ts.length) (h2 : k < fs.length) : sgK line ts fs (k + 1) = sgK line ts fs k ++ (if 0 ≤ fs.getD k 0 then [(line, (ts.getD k T0k).col, line, fs.getD k 0)] else []) := by
 have hz : k < (ts.zip fs).length := by rw [List.length_zip]; omega
 unfold sgK
 rw [List.take_add_one, List.getElem?_eq_getElem hz, List.filterMap_append]
 congr 1
 rw [List.getElem_zip, List.getD_eq_getElem?_getD, List.getElem?_eq_getElem h2, List.getD_eq_getElem?_getD, List.getElem?_eq_getElem h1]
 simp only [Option.toList, Option.getD_some, List.filterMap_cons, List.filterMap_nil, sg1]
 split <;> simp_all
theorem o9_ {line : Int} {ts : List Tk} {fs : List Int} {k : Nat} (h : ts.length ≤ k ∨ fs.length ≤ k) : sgK line ts fs k = sgs line ts fs := by
 unfold sgK sgs
 rw [List.take_of_length_le]
 rw [List.length_zip]; omega
theorem cq_ (line : Int) (ts : List Tk) (fs : List Int) (k : Nat) : (sgK line ts fs k).length ≤ k := by
 unfold sgK
 have := List.length_filterMap_le (sg1 line) ((ts.zip fs).take k)
 rw [List.length_take] at this; omega
theorem aaw_ (line : Int) (ts : List Tk) (fs : List Int) : (sgs line ts fs).length ≤ fs.length := by
 unfold sgs
 have := List.length_filterMap_le (sg1 line) (ts.zip fs)
 rw [List.length_zip] at this; omega
def sgS (i : Nat) (s : Sl) : List Sg := sgs i ((ci_ (emT s)).getD []) (emF s)
def sgN (l : List Sl) : Nat → List Sg
 | 0 => []
 | k + 1 => sgN l k ++ sgS k (l.getD k S0)
def sgP (l : List Sl) : List Sg := if pok l then sgN l l.length else []
theorem tu_ {s : Sl} (h : sok s = true) : ci_ (emT s) = some (jk_ 0 (bw (bof s))) := by rw [nl_ h]; exact vi_ (lc_ h)
theorem mm_ (c : Int) (l : List Str) : (jk_ c l).length = l.length := by rw [← List.length_map (f := Tk.s), z3_]
theorem u4_ {s : Sl} (h : sok s = true) : (emF s).length = (bw (bof s)).length := by
 have q := f0_ (df_ h)
 unfold emF; rw [if_pos h, ← u3_ (df_ h), fh_]
 rw [← q.2, List.length_map]
theorem rf_ {s : Sl} (h : sok s = true) : ((ci_ (emT s)).getD []).length = (emF s).length := by
 rw [tu_ h, Option.getD_some, mm_, u4_ h]
theorem ov_ {s : Sl} (h : sok s = true) : (emF s).length ≤ 76 := by
 rw [u4_ h]; exact (mg_ (ey_ (df_ h))).1
theorem cs_ {i : Nat} {s : Sl} (h : sok s = true) : (sgS i s).length ≤ 76 := by
 have := aaw_ i ((ci_ (emT s)).getD []) (emF s)
 have := ov_ h
 unfold sgS; omega
theorem tv_ {l : List Sl} (h : ∀ k, k < l.length → sok (l.getD k S0) = true) : ∀ k, k ≤ l.length → (sgN l k).length ≤ 76 * k
 | 0, _ => by simp [sgN]
 | k + 1, hk => by
  have h1 := tv_ h k (by omega)
  have h2 := cs_ (i := k) (h k (by omega))
  rw [sgN, List.length_append]; omega
theorem c2_ {l : List Sl} (h : pok l = true) {k : Nat} (hk : k ≤ l.length) : (sgN l k).length ≤ 1216 := by
 have h0 := b0_ h
 have := tv_ h0.2.2 k hk
 omega
theorem zj_ (l : List Sl) : (sgP l).length ≤ 1216 := by
 unfold sgP; split
 ·rename_i h; exact c2_ h (Nat.le_refl _)
 ·simp
end
section
set_option maxRecDepth 100000
set_option maxHeartbeats 4000000
theorem v5_ (l : List Sg) (hl : l.length < 1099511627776) : ACall En 42 [.sl false (sgR l)] [] [.sl false (sgR l)] [] := by
 refine ap_ (fn := Tryz.f42) [] Tryz.func42 rfl rfl (by simp) fun C => ?_
 rw [a0_]
 simp only [Tryz.ntmps42, List.length_cons, List.length_nil, Nat.reduceAdd, Nat.reduceSub, List.replicate_succ, List.replicate_zero, List.cons_append, List.nil_append, bq_]
 refine .seq (.rgn [] (by simp only [go_sem, seval, af_, an_]; rfl) ?_ ?_)
 ·first | trivial | simp
 refine .seq (.rgn [] (by simp only [go_sem, seval, af_, an_]; rfl) ?_ ?_)
 ·first | trivial | simp
 refine .ret ⟨.inr rfl, ?_⟩
 exact Out.plainL (by simp only [Tryz.results42]; rfl) (by simp only [a1_, bc_, go_sem, seval, af_, an_] <;> (split <;> rfl)) (by simp only [ba_, go_sem, seval, af_, an_] <;> (rw [List.take_of_length_le (by rw [an_]; exact Nat.le_refl _)]; exact bo_ _)) (by simp only [go_sem, seval, af_, an_])
theorem y9_ (i : Int) (t : Str) (fs : List Int) (ht : t.length ≤ 281474976710656) (hl : ((ci_ t).getD []).length ≤ fs.length) (hf : fs.length ≤ 1000000) : ACall En 41 [.i .i64 i, .s t, .sl false (inR fs)] [] [.sl false (sgR (sgs i ((ci_ t).getD []) fs))] [] := by
 have T := nu_ t ht
 generalize (ci_ t).getD [] = ts at *
 refine ap_ (fn := Tryz.f41) [] Tryz.func41 rfl rfl (by simp) fun C => ?_
 rw [a0_]
 simp only [Tryz.ntmps41, List.length_cons, List.length_nil, Nat.reduceAdd, Nat.reduceSub, List.replicate_succ, List.replicate_zero, List.cons_append, List.nil_append, bq_]
 refine .seq (.rgn [] (by simp only [go_sem, seval, ao_, aj_, as_, ag_, af_]; rfl) ?_ ?_)
 ·(first | trivial | (simp; done) | (simp only [decide_eq_true_eq] at h20; have q := cq_ i ts fs k; simp [bt_, an_]; omega))
 refine .seq (.rgn [a5_ T] (by simp only [go_sem, seval, ao_, aj_, as_, ag_, af_]; rfl) ?_ ?_)
 ·(first | trivial | (simp; done) | (simp only [decide_eq_true_eq] at h20; have q := cq_ i ts fs k; simp [bt_, an_]; omega))
 refine .seq (.rgn [] (by simp only [go_sem, seval, ao_, aj_, as_, ag_, af_]; rfl) ?_ ?_)
 ·(first | trivial | (simp; done) | (simp only [decide_eq_true_eq] at h20; have q := cq_ i ts fs k; simp [bt_, an_]; omega))
 refine .seq (.seq (.rgn [] (by simp only [go_sem, seval, ao_, aj_, as_, ag_, af_]; rfl) ?_ ?_))
 ·(first | trivial | (simp; done) | (simp only [decide_eq_true_eq] at h20; have q := cq_ i ts fs k; simp [bt_, an_]; omega))
 refine .block (.loopK (fun k : Nat => ⟨[.i .i64 i, .no, .sl false (inR fs), .no, .no, .no, .no, .no, .no, .ow 20 4 0 (sgK i ts fs k).length, .no, .no, .no, .no, .no, .no, .no, .sl false (tkR ts), .i .i64 ts.length, .i .i64 k, .no, .no, .no, .no, .no, .no, .no, .no, .no, .no, .no, .no, .no, .no, .no, .no, .no, .no, .no, .no, .no, .no, .no, .no, .no], a6_ [(20, ⟨38, 4, sgR (sgK i ts fs k)⟩)], us [20]⟩) (fun k : Nat => k ≤ ts.length) (fun k : Nat => ts.length - k) (0) ?_ ?_ (fun k hI => ?_))
 ·simp
 ·refine Can.trans (Can.ownSlot 9 20 38 4 (by simp only [go_sem, seval, ao_, aj_, as_, ag_, af_] <;> rfl) (by simp only [go_sem, seval, ao_, aj_, as_, ag_, af_]) (by simp only [go_sem, seval, ao_, aj_, as_, ag_, af_] <;> rfl)) ?_
  exact Can.weak (Weak.lit (by simp only [go_sem, seval, ao_, aj_, as_, ag_, af_, aw_, leV, at_, au_, V.inn, us, true_or, or_true] <;> (simp [hc_])) (by simp only [go_sem, seval, ao_, aj_, as_, ag_, af_, aw_, leV, at_, au_, V.inn, us, true_or, or_true]) (by simp only [go_sem, seval, ao_, aj_, as_, ag_, af_, aw_, leV, at_, au_, V.inn, us, true_or, or_true] <;> (simp [hc_, sgR])))
 refine .seq (.rgn [] (by simp only [go_sem, seval, ao_, aj_, as_, ag_, af_]; rfl) ?_ ?_)
 ·(first | trivial | (simp; done) | (simp only [decide_eq_true_eq] at h20; have q := cq_ i ts fs k; simp [bt_, an_]; omega))
 refine .seq (.condB (by simp only [go_sem, seval, ao_, aj_, as_, ag_, af_]; rfl) (by simp only [go_sem, seval, ao_, aj_, as_, ag_, af_]) (fun h20 => ?_) (fun h20 => ?_))
 ·refine .skip (.seqJ (fun u : Unit => ⟨[.i .i64 i, .no, .sl false (inR fs), .no, .no, .no, .no, .no, .no, .ow 20 4 0 (sgK i ts fs (k + 1)).length, .no, .no, .no, .no, .no, .no, .no, .sl false (tkR ts), .i .i64 ts.length, .i .i64 k, .no, .no, .no, .no, .no, .no, .no, .no, .no, .no, .no, .no, .no, .no, .no, .no, .no, .no, .no, .no, .no, .no, .no, .no, .no], a6_ [(20, ⟨38, 4, sgR (sgK i ts fs (k + 1))⟩)], us [20]⟩) (fun u : Unit => True) ?_ (fun u hJ => ?_))
  ·refine .block (.seq (.rgn [] (by simp only [go_sem, seval, ao_, aj_, as_, ag_, af_, k4_ (show k < ts.length by simpa using h20)]; rfl) ?_ ?_))
   ·(first | trivial | (simp; done) | (simp only [decide_eq_true_eq] at h20; have q := cq_ i ts fs k; simp [bt_, an_]; omega))
   refine .seq (.rgn [] (by simp only [go_sem, seval, ao_, aj_, as_, ag_, af_, e8_ (show k < fs.length by (have h' : k < ts.length := (by simpa using h20)); omega)]; rfl) ?_ ?_)
   ·(first | trivial | (simp; done) | (simp only [decide_eq_true_eq] at h20; have q := cq_ i ts fs k; simp [bt_, an_]; omega))
   refine .condB (by simp only [go_sem, seval, ao_, aj_, as_, ag_, af_]; rfl) (by simp only [go_sem, seval, ao_, aj_, as_, ag_, af_]) (fun h28 => ?_) (fun h28 => ?_)
   ·refine .rgnD [] enM (by simp only [go_sem, seval, ao_, aj_, as_, ag_, af_, e8_ (show k < fs.length by (have h' : k < ts.length := (by simpa using h20)); omega)]; rfl) (by rfl) ?_ ?_
    ·(first | trivial | (simp; done) | (simp only [decide_eq_true_eq] at h20; have q := cq_ i ts fs k; simp [bt_, an_]; omega))
    refine Exists.intro (()) ⟨?_, ?_⟩
    ·trivial
    refine Can.trans (Can.swap 52 20 (by decide) (by decide) (by decide) (by decide) (by simp only [go_sem, seval, ao_, aj_, as_, ag_, af_, V.cl]) (by simp only [go_sem, seval, ao_, aj_, as_, ag_, af_, V.cl]) (by simp only [go_sem, seval, ao_, aj_, as_, ag_, af_, be_, sw, swM, rnB] <;> rfl) (by simp only [go_sem, seval, ao_, aj_, as_, ag_, af_, be_, sw, swM, rnB] <;> rfl) (by simp only [go_sem, seval, ao_, aj_, as_, ag_, af_, be_, sw, swM, rnB] <;> rfl)) ?_
    exact Can.weak (Weak.lit (by simp only [go_sem, seval, ao_, aj_, as_, ag_, af_, aw_, leV, at_, au_, V.inn, us, true_or, or_true] <;> (simp only [decide_eq_true_eq] at h20; first | (rw [cj_ (by omega) (by omega), if_pos (by simpa using h28)]; simp; done) | (rw [cj_ (by omega) (by omega), if_neg (by simpa using h28)]; simp; done))) (by simp only [go_sem, seval, ao_, aj_, as_, ag_, af_, aw_, leV, at_, au_, V.inn, us, true_or, or_true]) (by simp only [go_sem, seval, ao_, aj_, as_, ag_, af_, aw_, leV, at_, au_, V.inn, us, true_or, or_true] <;> (simp only [decide_eq_true_eq] at h20; first | (rw [cj_ (by omega) (by omega), if_pos (by simpa using h28)]; simp [sgR, sgC, T0k]; done) | (rw [cj_ (by omega) (by omega), if_neg (by simpa using h28)]; simp; done))))
   ·refine .skip ?_
    refine Exists.intro (()) ⟨?_, ?_⟩
    ·trivial
    exact Can.weak (Weak.lit (by simp only [go_sem, seval, ao_, aj_, as_, ag_, af_, aw_, leV, at_, au_, V.inn, us, true_or, or_true] <;> (simp only [decide_eq_true_eq] at h20; first | (rw [cj_ (by omega) (by omega), if_pos (by simpa using h28)]; simp; done) | (rw [cj_ (by omega) (by omega), if_neg (by simpa using h28)]; simp; done))) (by simp only [go_sem, seval, ao_, aj_, as_, ag_, af_, aw_, leV, at_, au_, V.inn, us, true_or, or_true]) (by simp only [go_sem, seval, ao_, aj_, as_, ag_, af_, aw_, leV, at_, au_, V.inn, us, true_or, or_true] <;> (simp only [decide_eq_true_eq] at h20; first | (rw [cj_ (by omega) (by omega), if_pos (by simpa using h28)]; simp [sgR, sgC, T0k]; done) | (rw [cj_ (by omega) (by omega), if_neg (by simpa using h28)]; simp; done))))
  refine .rgn [] (by simp only [go_sem, seval, ao_, aj_, as_, ag_, af_]; rfl) ?_ ?_
  ·(first | trivial | (simp; done) | (simp only [decide_eq_true_eq] at h20; have q := cq_ i ts fs k; simp [bt_, an_]; omega))
  refine Exists.intro (k + 1) ⟨?_, ?_, ?_⟩
  ·simp at h20; omega
  ·simp at h20; omega
  exact Can.weak (Weak.lit (by simp only [go_sem, seval, ao_, aj_, as_, ag_, af_, aw_, leV, at_, au_, V.inn, us, true_or, or_true] <;> (rw [a7_ (by simp at h20; omega) (by simp at h20; omega)]; simp)) (by simp only [go_sem, seval, ao_, aj_, as_, ag_, af_, aw_, leV, at_, au_, V.inn, us, true_or, or_true]) (by simp only [go_sem, seval, ao_, aj_, as_, ag_, af_, aw_, leV, at_, au_, V.inn, us, true_or, or_true]))
 ·refine .exit (.seq (.rgn [] (by simp only [go_sem, seval, ao_, aj_, as_, ag_, af_]; rfl) ?_ ?_))
  ·(first | trivial | (simp; done) | (simp only [decide_eq_true_eq] at h20; have q := cq_ i ts fs k; simp [bt_, an_]; omega))
  refine .frz 20 (by simp only [go_sem, seval, ao_, aj_, as_, ag_, af_]; rfl) (by simp only [go_sem, seval, ao_, aj_, as_, ag_, af_]) (by simp only [go_sem, seval, ao_, aj_, as_, ag_, af_]; rfl) (by simp only [go_sem, seval, ao_, aj_, as_, ag_, af_]; rfl) ?_
  refine .ret ⟨.inr rfl, ?_⟩
  exact Out.plain (by simp only [Tryz.results41]; rfl) (by simp only [a1_, bc_, go_sem, seval, ao_, aj_, as_, ag_, af_] <;> (split <;> rfl)) (by simp only [ba_, go_sem, seval, ao_, aj_, as_, ag_, af_] <;> (simp only [decide_eq_false_iff_not] at h20; rw [o9_ (.inl (by omega))]; simp [List.take_of_length_le, an_, peel])) (by simp only [go_sem, seval, ao_, aj_, as_, ag_, af_])
theorem se_ (l : List Sl) (hs : kt_ l = true) (hl : l.length < 4611686018427387904) : ACall En 10 [.sl false (sR l)] [] [.sl false (sgR (sgP l))] [] := by
 have hE : ∀ k, pok l = true ∧ k < l.length → ACall En 41 [.i .i64 k, .s (emT (l.getD k S0)), .sl false (inR (emF (l.getD k S0)))] [] [.sl false (sgR (sgS k (l.getD k S0)))] [] := fun k h =>
  have hk := (b0_ h.1).2.2 k h.2
  y9_ k _ _ (by have := pu_ hk; omega) (by rw [rf_ hk]; exact Nat.le_refl _) (by have := ov_ hk; omega)
 refine ap_ (fn := Tryz.f10) [] Tryz.func10 rfl rfl (by simp) fun C => ?_
 rw [a0_]
 simp only [Tryz.ntmps10, List.length_cons, List.length_nil, Nat.reduceAdd, Nat.reduceSub, List.replicate_succ, List.replicate_zero, List.cons_append, List.nil_append, bq_]
 refine .seq (.rgn [] (by simp only [go_sem, seval, am_, ai_, ae_, ag_, af_, an_]; rfl) ?_ ?_)
 ·(first | trivial | (simp; done) | (simp only [decide_eq_true_eq] at h14; have hk : k < l.length := (by omega); have h2 := (b0_ hI.2).2.2 k hk; have q1 := c2_ hI.2 (k := k) (by omega); have q2 := cs_ (i := k) h2; first | exact ⟨hk, h2⟩ | omega | exact ⟨⟨hI.2, hk⟩, fun r hr => (by rw [bz_] at *; exact trivial), by simp, by omega⟩ | (refine ⟨⟨hI.2, hk⟩, of_eq_true (bz_ _), by simp, by omega⟩)))
 refine .seq (.seq (.rgn [a5_ (od_ l hs hl)] (by simp only [go_sem, seval, am_, ai_, ae_, ag_, af_, an_]; rfl) ?_ ?_))
 ·(first | trivial | (simp; done) | (simp only [decide_eq_true_eq] at h14; have hk : k < l.length := (by omega); have h2 := (b0_ hI.2).2.2 k hk; have q1 := c2_ hI.2 (k := k) (by omega); have q2 := cs_ (i := k) h2; first | exact ⟨hk, h2⟩ | omega | exact ⟨⟨hI.2, hk⟩, fun r hr => (by rw [bz_] at *; exact trivial), by simp, by omega⟩ | (refine ⟨⟨hI.2, hk⟩, of_eq_true (bz_ _), by simp, by omega⟩)))
 refine .condB (by simp only [go_sem, seval, am_, ai_, ae_, ag_, af_, an_]; rfl) (by simp only [go_sem, seval, am_, ai_, ae_, ag_, af_, an_]) (fun h10 => ?_) (fun h10 => ?_)
 ·refine .seq (.rgn [] (by simp only [go_sem, seval, am_, ai_, ae_, ag_, af_, an_]; rfl) ?_ ?_)
  ·(first | trivial | (simp; done) | (simp only [decide_eq_true_eq] at h14; have hk : k < l.length := (by omega); have h2 := (b0_ hI.2).2.2 k hk; have q1 := c2_ hI.2 (k := k) (by omega); have q2 := cs_ (i := k) h2; first | exact ⟨hk, h2⟩ | omega | exact ⟨⟨hI.2, hk⟩, fun r hr => (by rw [bz_] at *; exact trivial), by simp, by omega⟩ | (refine ⟨⟨hI.2, hk⟩, of_eq_true (bz_ _), by simp, by omega⟩)))
  refine .ret ⟨.inr rfl, ?_⟩
  exact Out.plainL (by simp only [Tryz.results10]; rfl) (by simp only [a1_, bc_, go_sem, seval, am_, ai_, ae_, ag_, af_, an_] <;> (split <;> rfl)) (by simp only [ba_, go_sem, seval, am_, ai_, ae_, ag_, af_, an_] <;> (simp at h10; simp [sgP, h10, sgR, ler])) (by simp only [go_sem, seval, am_, ai_, ae_, ag_, af_, an_])
 ·refine .skip (.seq (.rgn [] (by simp only [go_sem, seval, am_, ai_, ae_, ag_, af_, an_]; rfl) ?_ ?_))
  ·(first | trivial | (simp; done) | (simp only [decide_eq_true_eq] at h14; have hk : k < l.length := (by omega); have h2 := (b0_ hI.2).2.2 k hk; have q1 := c2_ hI.2 (k := k) (by omega); have q2 := cs_ (i := k) h2; first | exact ⟨hk, h2⟩ | omega | exact ⟨⟨hI.2, hk⟩, fun r hr => (by rw [bz_] at *; exact trivial), by simp, by omega⟩ | (refine ⟨⟨hI.2, hk⟩, of_eq_true (bz_ _), by simp, by omega⟩)))
  refine .seqJ (fun u : Unit => ⟨[.no, .no, .no, .sl false (sgR (sgN l l.length)), .no, .no, .no, .no, .no, .no, .no, .no, .no, .no, .no, .no, .no, .no, .no, .no, .no, .no, .no, .no, .no, .no, .no, .no, .no, .no, .no, .no], a6_ [], us []⟩) (fun u : Unit => pok l = true) ?_ (fun u hJ => ?_)
  ·refine .seq (.rgn [] (by simp only [go_sem, seval, am_, ai_, ae_, ag_, af_, an_]; rfl) ?_ ?_)
   ·(first | trivial | (simp; done) | (simp only [decide_eq_true_eq] at h14; have hk : k < l.length := (by omega); have h2 := (b0_ hI.2).2.2 k hk; have q1 := c2_ hI.2 (k := k) (by omega); have q2 := cs_ (i := k) h2; first | exact ⟨hk, h2⟩ | omega | exact ⟨⟨hI.2, hk⟩, fun r hr => (by rw [bz_] at *; exact trivial), by simp, by omega⟩ | (refine ⟨⟨hI.2, hk⟩, of_eq_true (bz_ _), by simp, by omega⟩)))
   refine .block (.loopK (fun k : Nat => ⟨[.no, .no, .no, .ow 20 4 0 (sgN l k).length, .no, .no, .no, .no, .no, .no, .no, .sl false (sR l), .i .i64 l.length, .i .i64 k, .no, .no, .no, .no, .no, .no, .no, .no, .no, .no, .no, .no, .no, .no, .no, .no, .no, .no], a6_ [(20, ⟨38, 4, sgR (sgN l k)⟩)], us [20]⟩) (fun k : Nat => k ≤ l.length ∧ pok l = true) (fun k : Nat => l.length - k) (0) ?_ ?_ (fun k hI => ?_))
   ·exact ⟨by simp, by simpa using h10⟩
   ·refine Can.trans (Can.ownSlot 3 20 38 4 (by simp only [go_sem, seval, am_, ai_, ae_, ag_, af_, an_] <;> rfl) (by simp only [go_sem, seval, am_, ai_, ae_, ag_, af_, an_]) (by simp only [go_sem, seval, am_, ai_, ae_, ag_, af_, an_] <;> rfl)) ?_
    exact Can.weak (Weak.lit (by simp only [go_sem, seval, am_, ai_, ae_, ag_, af_, an_, aw_, leV, at_, au_, V.inn, us, true_or, or_true] <;> (simp [sgN])) (by simp only [go_sem, seval, am_, ai_, ae_, ag_, af_, an_, aw_, leV, at_, au_, V.inn, us, true_or, or_true]) (by simp only [go_sem, seval, am_, ai_, ae_, ag_, af_, an_, aw_, leV, at_, au_, V.inn, us, true_or, or_true] <;> (simp [sgN, sgR])))
   refine .seq (.rgn [] (by simp only [go_sem, seval, am_, ai_, ae_, ag_, af_, an_]; rfl) ?_ ?_)
   ·(first | trivial | (simp; done) | (simp only [decide_eq_true_eq] at h14; have hk : k < l.length := (by omega); have h2 := (b0_ hI.2).2.2 k hk; have q1 := c2_ hI.2 (k := k) (by omega); have q2 := cs_ (i := k) h2; first | exact ⟨hk, h2⟩ | omega | exact ⟨⟨hI.2, hk⟩, fun r hr => (by rw [bz_] at *; exact trivial), by simp, by omega⟩ | (refine ⟨⟨hI.2, hk⟩, of_eq_true (bz_ _), by simp, by omega⟩)))
   refine .seq (.condB (by simp only [go_sem, seval, am_, ai_, ae_, ag_, af_, an_]; rfl) (by simp only [go_sem, seval, am_, ai_, ae_, ag_, af_, an_]) (fun h14 => ?_) (fun h14 => ?_))
   ·refine .skip (.seq (.block (.seq (.rgn [] (by simp only [go_sem, seval, am_, ai_, ae_, ag_, af_, an_, lw_ (show k < l.length by simpa using h14), ae_]; rfl) ?_ ?_))))
    ·(first | trivial | (simp; done) | (simp only [decide_eq_true_eq] at h14; have hk : k < l.length := (by omega); have h2 := (b0_ hI.2).2.2 k hk; have q1 := c2_ hI.2 (k := k) (by omega); have q2 := cs_ (i := k) h2; first | exact ⟨hk, h2⟩ | omega | exact ⟨⟨hI.2, hk⟩, fun r hr => (by rw [bz_] at *; exact trivial), by simp, by omega⟩ | (refine ⟨⟨hI.2, hk⟩, of_eq_true (bz_ _), by simp, by omega⟩)))
    refine .seq (.rgn [dg_ (k < l.length ∧ sok (l.getD k S0) = true) (fun h => y5_ (l.getD k S0) h.2 (ik_ hs h.1))] (by simp only [go_sem, seval, am_, ai_, ae_, ag_, af_, an_]; rfl) ?_ ?_)
    ·(first | trivial | (simp; done) | (simp only [decide_eq_true_eq] at h14; have hk : k < l.length := (by omega); have h2 := (b0_ hI.2).2.2 k hk; have q1 := c2_ hI.2 (k := k) (by omega); have q2 := cs_ (i := k) h2; first | exact ⟨hk, h2⟩ | omega | exact ⟨⟨hI.2, hk⟩, fun r hr => (by rw [bz_] at *; exact trivial), by simp, by omega⟩ | (refine ⟨⟨hI.2, hk⟩, of_eq_true (bz_ _), by simp, by omega⟩)))
    refine .rgn [dg_ (pok l = true ∧ k < l.length) (hE k)] (by simp only [go_sem, seval, am_, ai_, ae_, ag_, af_, an_]; rfl) ?_ ?_
    ·(first | trivial | (simp; done) | (simp only [decide_eq_true_eq] at h14; have hk : k < l.length := (by omega); have h2 := (b0_ hI.2).2.2 k hk; have q1 := c2_ hI.2 (k := k) (by omega); have q2 := cs_ (i := k) h2; first | exact ⟨hk, h2⟩ | omega | exact ⟨⟨hI.2, hk⟩, fun r hr => (by rw [bz_] at *; exact trivial), by simp, by omega⟩ | (refine ⟨⟨hI.2, hk⟩, of_eq_true (bz_ _), by simp, by omega⟩)))
    refine .rgn [] (by simp only [go_sem, seval, am_, ai_, ae_, ag_, af_, an_]; rfl) ?_ ?_
    ·(first | trivial | (simp; done) | (simp only [decide_eq_true_eq] at h14; have hk : k < l.length := (by omega); have h2 := (b0_ hI.2).2.2 k hk; have q1 := c2_ hI.2 (k := k) (by omega); have q2 := cs_ (i := k) h2; first | exact ⟨hk, h2⟩ | omega | exact ⟨⟨hI.2, hk⟩, fun r hr => (by rw [bz_] at *; exact trivial), by simp, by omega⟩ | (refine ⟨⟨hI.2, hk⟩, of_eq_true (bz_ _), by simp, by omega⟩)))
    refine Exists.intro (k + 1) ⟨?_, ?_, ?_⟩
    ·simp at h14; exact ⟨by omega, hI.2⟩
    ·simp at h14; omega
    refine Can.trans (Can.swap 38 20 (by decide) (by decide) (by decide) (by decide) (by simp only [go_sem, seval, am_, ai_, ae_, ag_, af_, an_, V.cl]) (by simp only [go_sem, seval, am_, ai_, ae_, ag_, af_, an_, V.cl]) (by simp only [go_sem, seval, am_, ai_, ae_, ag_, af_, an_, be_, sw, swM, rnB] <;> rfl) (by simp only [go_sem, seval, am_, ai_, ae_, ag_, af_, an_, be_, sw, swM, rnB] <;> rfl) (by simp only [go_sem, seval, am_, ai_, ae_, ag_, af_, an_, be_, sw, swM, rnB] <;> rfl)) ?_
    exact Can.weak (Weak.lit (by simp only [go_sem, seval, am_, ai_, ae_, ag_, af_, an_, aw_, leV, at_, au_, V.inn, us, true_or, or_true] <;> (rw [a7_ (by simp at h14; omega) (by simp at h14; omega)]; simp [sgN])) (by simp only [go_sem, seval, am_, ai_, ae_, ag_, af_, an_, aw_, leV, at_, au_, V.inn, us, true_or, or_true]) (by simp only [go_sem, seval, am_, ai_, ae_, ag_, af_, an_, aw_, leV, at_, au_, V.inn, us, true_or, or_true] <;> (simp [sgN, ud_])))
   ·refine .exit ?_
    refine Exists.intro (()) ⟨?_, ?_⟩
    ·exact hI.2
    refine Can.trans (Can.frz 20 (by simp only [go_sem, seval, am_, ai_, ae_, ag_, af_, an_] <;> rfl) (by simp only [go_sem, seval, am_, ai_, ae_, ag_, af_, an_]) (by simp only [go_sem, seval, am_, ai_, ae_, ag_, af_, an_] <;> rfl) (by simp only [go_sem, seval, am_, ai_, ae_, ag_, af_, an_] <;> rfl)) ?_
    exact Can.weak (Weak.lit (by simp only [go_sem, seval, am_, ai_, ae_, ag_, af_, an_, aw_, leV, at_, au_, V.inn, us, true_or, or_true] <;> (simp at h14; (obtain rfl : k = l.length := (by omega)); simp [List.take_of_length_le, an_, leV, bo_])) (by simp only [go_sem, seval, am_, ai_, ae_, ag_, af_, an_, aw_, leV, at_, au_, V.inn, us, true_or, or_true]) (by simp only [go_sem, seval, am_, ai_, ae_, ag_, af_, an_, aw_, leV, at_, au_, V.inn, us, true_or, or_true]))
  refine .seq (.rgn [dg_ (pok l = true) (fun h => v5_ (sgN l l.length) (by have := c2_ h (Nat.le_refl _); omega))] (by simp only [go_sem, seval, am_, ai_, ae_, ag_, af_, an_]; rfl) ?_ ?_)
  ·(first | trivial | (simp; done) | (simp only [decide_eq_true_eq] at h14; have hk : k < l.length := (by omega); have h2 := (b0_ hI.2).2.2 k hk; have q1 := c2_ hI.2 (k := k) (by omega); have q2 := cs_ (i := k) h2; first | exact ⟨hk, h2⟩ | omega | exact ⟨⟨hI.2, hk⟩, fun r hr => (by rw [bz_] at *; exact trivial), by simp, by omega⟩ | (refine ⟨⟨hI.2, hk⟩, of_eq_true (bz_ _), by simp, by omega⟩)))
  refine .ret ⟨.inr rfl, ?_⟩
  exact Out.plainL (by simp only [Tryz.results10]; rfl) (by simp only [a1_, bc_, go_sem, seval, am_, ai_, ae_, ag_, af_, an_] <;> (split <;> rfl)) (by simp only [ba_, go_sem, seval, am_, ai_, ae_, ag_, af_, an_] <;> (simp [sgP, hJ, bo_, leV])) (by simp only [go_sem, seval, am_, ai_, ae_, ag_, af_, an_])
end
section
set_option maxRecDepth 100000
set_option maxHeartbeats 4000000
end
section
set_option maxRecDepth 100000
set_option maxHeartbeats 4000000
end
section
theorem uh_ : ∀ {B : Wd}, (ids B).Nodup → ∀ {a b : Nat}, a < B.length → b < B.length → 0 ≤ (B.getD a ([], 0)).2 → (B.getD a ([], 0)).2 = (B.getD b ([], 0)).2 → a = b
 | [], _, a, _, ha, _, _, _ => by simp at ha
 | p :: B, hn, a, b, ha, hb, h0, e => by
  have mem : ∀ c, c < B.length → 0 ≤ (B.getD c ([], 0)).2 → (B.getD c ([], 0)).2 ∈ ids B := fun c hc q => gw_.2 ⟨List.mem_map.2 ⟨_, bh_ hc, rfl⟩, q⟩
  rw [du_] at hn
  have hn' : (ids B).Nodup := by
   split at hn
   ·exact (List.nodup_cons.1 hn).2
   ·exact hn
  cases a with
  | zero =>
   cases b with
   | zero => rfl
   | succ b =>
    simp only [List.getD_cons_zero, List.getD_cons_succ] at h0 e
    rw [if_pos h0] at hn
    exact absurd (e ▸ mem b (by simpa using hb) (by omega)) (List.nodup_cons.1 hn).1
  | succ a =>
   cases b with
   | zero =>
    simp only [List.getD_cons_zero, List.getD_cons_succ] at h0 e
    rw [if_pos (by omega)] at hn
    exact absurd (e ▸ mem a (by simpa using ha) h0) (List.nodup_cons.1 hn).1
   | succ b =>
    simp only [List.getD_cons_succ] at h0 e
    rw [uh_ hn' (by simpa using ha) (by simpa using hb) h0 e]
theorem rm_ {l : List Str} {a : Nat} (h : a < l.length) : ∀ d, a + d + 1 ≤ l.length → wid (l.take a) + (l.getD a []).length + 1 ≤ wid (l.take (a + d + 1))
 | 0, _ => by rw [Nat.add_zero, id_ h]; omega
 | d + 1, hd => by
  have := rm_ h d (by omega)
  rw [show a + (d + 1) + 1 = (a + d + 1) + 1 by omega, id_ (by omega)]; omega
theorem aei_ {l : List Str} {a b : Nat} (h : a < b) (hb : b ≤ l.length) : wid (l.take a) + (l.getD a []).length + 1 ≤ wid (l.take b) := by
 have := rm_ (l := l) (a := a) (by omega) (b - a - 1) (by omega)
 rwa [show a + (b - a - 1) + 1 = b by omega] at this
theorem o1_ {l : List Str} {c : Int} {a b : Nat} (h : a < b) (hb : b < l.length) : (b3_ c l).getD a 0 + (l.getD a []).length + 1 ≤ (b3_ c l).getD b 0 := by
 have := aei_ (l := l) h (by omega)
 rw [ff_ l c (by omega), ff_ l c hb]; omega
theorem vz_ {L : Wd} (hn : (ids L).Nodup) {i j : Int} (hi : i ∈ ids L) (hj : j ∈ ids L) (h : c6_ 0 L i = c6_ 0 L j) : i = j := by
 obtain ⟨hi1, hi2⟩ := gw_.1 hi
 obtain ⟨hj1, hj2⟩ := gw_.1 hj
 obtain ⟨u, hu, rfl⟩ := List.mem_map.1 hi1
 obtain ⟨v, hv, rfl⟩ := List.mem_map.1 hj1
 obtain ⟨a, ha⟩ := List.mem_iff_getElem?.1 hu
 obtain ⟨b, hb⟩ := List.mem_iff_getElem?.1 hv
 have ea := gf_ 0 hn ha hi2
 have eb := gf_ 0 hn hb hj2
 have la := (List.getElem?_eq_some_iff.1 ha).1
 have lb := (List.getElem?_eq_some_iff.1 hb).1
 have ga : (b3_ 0 (L.map (·.1))).getD a 0 = c6_ 0 L u.2 := by rw [List.getD_eq_getElem?_getD, ea]; rfl
 have gb : (b3_ 0 (L.map (·.1))).getD b 0 = c6_ 0 L v.2 := by rw [List.getD_eq_getElem?_getD, eb]; rfl
 rcases Nat.lt_trichotomy a b with q | q | q
 ·have := o1_ (l := L.map (·.1)) (c := 0) q (by rw [List.length_map]; exact lb); omega
 ·subst q; rw [ha] at hb; cases hb; rfl
 ·have := o1_ (l := L.map (·.1)) (c := 0) q (by rw [List.length_map]; exact la); omega
theorem vj_ {b : Bl} (h : g7_ b = true) : (ids (c1_ b)).Nodup := by
 obtain ⟨h0, h1, h2⟩ := j9_ h
 have I : ∀ e : E, eok e = true → ∀ nx : Int, 0 ≤ nx → nx ≤ 12 → (ids (src e 0 nx)).Nodup ∧ ∀ i ∈ ids (src e 0 nx), nx ≤ i ∧ i < nx + cnt e ∧ i < 100 := fun e he nx hn hn2 => by
  have := ij_ 5 e 0 nx (bp_ he) hn
  have hc := g0_ he
  exact ⟨this.1, fun i hi => by have := this.2 i hi; omega⟩
 unfold c1_
 rcases h0 with k | k | k | k
 ·simp [k, ids]
 ·obtain ⟨i1, i2⟩ := I _ (h1 (.inl k)) 0 (by decide) (by decide)
  simp only [k, if_true, du_, show (0 : Int) ≤ 101 by omega, show (0 : Int) ≤ 102 by omega]
  simp only [List.nodup_cons, List.mem_cons]
  exact ⟨fun h => by rcases h with h | h; omega; have := i2 _ h; omega, fun h => by have := i2 _ h; omega, i1⟩
 ·obtain ⟨i1, i2⟩ := I _ (h1 (.inr (.inl k))) 0 (by decide) (by decide)
  simp only [k, if_true, show ¬ (2 : Int) = 1 by omega, if_false, du_, show (0 : Int) ≤ 103 by omega, List.nodup_cons]
  exact ⟨fun h => by have := i2 _ h; omega, i1⟩
 ·have he := h1 (.inr (.inr k))
  have hc := g0_ he
  obtain ⟨i1, i2⟩ := I _ he 0 (by decide) (by decide)
  have hc0 := (cl_ 5 _ 0 (bp_ he)).2.2.2
  obtain ⟨j1, j2⟩ := I _ (h2 k) (cnt b.expr) (by omega) (by omega)
  rw [if_neg (by omega), if_neg (by omega), if_pos k]
  have e1 : ids (((wIf, 100) :: src b.expr 0 0 ++ [(hx_, -1), (dy_, 103)]) ++ src b.thn 0 (cnt b.expr)) = 100 :: (ids (src b.expr 0 0) ++ 103 :: ids (src b.thn 0 (cnt b.expr))) := by
   simp [ip_, du_, pz_]
  rw [e1]
  refine List.nodup_cons.2 ⟨fun h => ?_, List.nodup_append.2 ⟨i1, List.nodup_cons.2 ⟨fun h => by have := j2 _ h; omega, j1⟩, fun a ha b hb => ?_⟩⟩
  ·rcases List.mem_append.1 h with h | h
   ·have := i2 _ h; omega
   ·rcases List.mem_cons.1 h with h | h
    ·omega
    ·have := j2 _ h; omega
  ·have q := i2 a ha
   rcases List.mem_cons.1 hb with rfl | hb
   ·omega
   ·have := j2 b hb; omega
theorem aao_ {s : Sl} (h : sok s = true) {a b : Nat} (ha : a < (emF s).length) (hb : b < (emF s).length) (h0 : 0 ≤ (emF s).getD a 0) (e : (emF s).getD a 0 = (emF s).getD b 0) : a = b := by
 have hs := df_ h
 have he : emF s = d0_ s := by unfold emF; rw [if_pos h]
 rw [he] at ha hb h0 e
 rw [jx_] at ha hb
 rw [f6_ ha] at h0 e
 rw [f6_ hb] at e
 by_cases q : ((c1_ (bof s)).getD a ([], 0)).2 < 0
 ·rw [if_pos q] at h0; omega
 rw [if_neg q] at e h0
 by_cases q2 : ((c1_ (bof s)).getD b ([], 0)).2 < 0
 ·rw [if_pos q2] at e; omega
 rw [if_neg q2] at e
 exact uh_ (vj_ (ey_ hs)) ha hb (by omega) (vz_ (ln_ hs) (kw_ hs (bh_ ha) (by omega)) (kw_ hs (bh_ hb) (by omega)) e)
theorem ad9_ {s : Sl} (h : sok s = true) {a : Nat} (ha : a < (emF s).length) : -1 ≤ (emF s).getD a 0 ∧ (emF s).getD a 0 ≤ 119 := by
 have hs := df_ h
 have he : emF s = d0_ s := by unfold emF; rw [if_pos h]
 rw [he] at ha ⊢
 rw [jx_] at ha
 rw [f6_ ha]
 split
 ·omega
 ·rename_i q
  have := q9_ ((c1_ (bof s)).getD a ([], 0)).2 (cw_ s) 0 (gw_.1 (kw_ hs (bh_ ha) (by omega))).1
  have h2 := (ws_ h).1
  have h3 : ed_ (cw_ s) ≤ 120 := by
   unfold ed_; rw [ir_ hs]
   by_cases hw : sw' s = []
   ·rw [hw, kz_]; omega
   ·have := i7_ hw; omega
  omega
theorem je_ : ∀ (l : List Str) (c : Int) {k : Nat}, k < l.length → ((jk_ c l).getD k T0k).col = (b3_ c l).getD k 0 ∧ ((jk_ c l).getD k T0k).s = l.getD k []
 | [], c, k, h => by simp at h
 | w :: r, c, 0, _ => by simp [jk_, b3_]
 | w :: r, c, k + 1, h => by
  simp only [jk_, b3_, List.getD_cons_succ]
  exact je_ r _ (by simpa using h)
def tkE (s : Sl) : List Tk := (ci_ (emT s)).getD []
theorem xy_ {s : Sl} (h : sok s = true) : tkE s = jk_ 0 (bw (bof s)) := by unfold tkE; rw [tu_ h]; rfl
theorem os_ {s : Sl} (h : sok s = true) : (tkE s).length = (emF s).length := rf_ h
theorem tf_ {s : Sl} (h : sok s = true) {a b : Nat} (hab : a < b) (hb : b < (tkE s).length) : ((tkE s).getD a T0k).col + ((tkE s).getD a T0k).s.length + 1 ≤ ((tkE s).getD b T0k).col := by
 rw [xy_ h] at hb ⊢
 rw [mm_] at hb
 have q1 := je_ (bw (bof s)) 0 (k := a) (by omega)
 have q2 := je_ (bw (bof s)) 0 (k := b) hb
 rw [q1.1, q1.2, q2.1]
 exact o1_ hab hb
theorem sr_ {s : Sl} (h : sok s = true) {a : Nat} (ha : a < (tkE s).length) : 0 ≤ ((tkE s).getD a T0k).col ∧ ((tkE s).getD a T0k).col + ((tkE s).getD a T0k).s.length ≤ 120 ∧ 1 ≤ ((tkE s).getD a T0k).s.length ∧ ((tkE s).getD a T0k).s.length ≤ 8 := by
 rw [xy_ h] at ha ⊢
 rw [mm_] at ha
 have q1 := je_ (bw (bof s)) 0 (k := a) ha
 rw [q1.1, q1.2, ff_ _ _ ha]
 have hb := ey_ (df_ h)
 have h1 := (mg_ hb).2 _ (bh_ (d := []) ha)
 have h2 := id_ ha
 have h3 := ur_ (bw (bof s)) (a + 1)
 have hne : bw (bof s) ≠ [] := by intro e; rw [e] at ha; simp at ha
 have h4 := i7_ hne
 have h5 := (g8_ (lc_ h)).1
 omega
theorem z1_ (i : Nat) (s : Sl) : sgS i s = sgs i (tkE s) (emF s) := rfl
theorem t7_ {i : Nat} {s : Sl} {x : Sg} (hx : x ∈ sgS i s) : ∃ k, k < (tkE s).length ∧ k < (emF s).length ∧ 0 ≤ (emF s).getD k 0 ∧ x = ((i : Int), ((tkE s).getD k T0k).col, (i : Int), (emF s).getD k 0) := by
 rw [z1_] at hx
 unfold sgs at hx
 obtain ⟨p, hp, hq⟩ := List.mem_filterMap.1 hx
 obtain ⟨k, hk⟩ := List.mem_iff_getElem?.1 hp
 have hz := (List.getElem?_eq_some_iff.1 hk).1
 rw [List.length_zip] at hz
 rw [List.getElem?_eq_getElem (by rw [List.length_zip]; omega), List.getElem_zip] at hk
 simp only [Option.some.injEq] at hk
 subst hk
 refine ⟨k, by omega, by omega, ?_⟩
 have e1 : (tkE s).getD k T0k = (tkE s)[k]'(by omega) := by rw [List.getD_eq_getElem?_getD, List.getElem?_eq_getElem (by omega)]; rfl
 have e2 : (emF s).getD k 0 = (emF s)[k]'(by omega) := by rw [List.getD_eq_getElem?_getD, List.getElem?_eq_getElem (by omega)]; rfl
 rw [e1, e2]
 unfold sg1 at hq
 dsimp only at hq
 split at hq
 ·rename_i h; exact ⟨h, (Option.some.inj hq).symm⟩
 ·cases hq
def qp_ (a b : Sg) : Prop := a.1 < b.1 ∨ a.1 = b.1 ∧ a.2.1 < b.2.1
def sgB (n : Int) (x : Sg) : Prop := 0 ≤ x.1 ∧ x.1 < n ∧ 0 ≤ x.2.1 ∧ x.2.1 ≤ 119 ∧ x.2.2.1 = x.1 ∧ 0 ≤ x.2.2.2 ∧ x.2.2.2 ≤ 119
theorem z0_ {i : Nat} {s : Sl} (h : sok s = true) : ∀ k, k ≤ (emF s).length → (sgK i (tkE s) (emF s) k).Pairwise qp_ ∧ ∀ x ∈ sgK i (tkE s) (emF s) k, x.1 = i ∧ ∃ j, j < k ∧ x.2.1 = ((tkE s).getD j T0k).col
 | 0, _ => by simp [hc_]
 | k + 1, hk => by
  have hl := os_ h
  obtain ⟨h1, h2⟩ := z0_ (i := i) h k (by omega)
  rw [cj_ (by omega) (by omega)]
  refine ⟨List.pairwise_append.2 ⟨h1, by split <;> simp, fun a ha b hb => ?_⟩, fun x hx => ?_⟩
  ·obtain ⟨q1, j, q2, q3⟩ := h2 a ha
   split at hb
   ·simp only [List.mem_cons, List.not_mem_nil, or_false] at hb
    subst hb
    refine .inr ⟨q1, ?_⟩
    have := tf_ h q2 (by omega)
    dsimp only; omega
   ·simp at hb
  ·rcases List.mem_append.1 hx with hx | hx
   ·obtain ⟨q1, j, q2, q3⟩ := h2 x hx
    exact ⟨q1, j, by omega, q3⟩
   ·split at hx
    ·simp only [List.mem_cons, List.not_mem_nil, or_false] at hx
     subst hx
     exact ⟨rfl, k, by omega, rfl⟩
    ·simp at hx
theorem aeq_ {i : Nat} {s : Sl} (h : sok s = true) : (sgS i s).Pairwise qp_ ∧ ∀ x ∈ sgS i s, sgB (i + 1) x ∧ x.1 = i := by
 have h1 := (z0_ (i := i) h (emF s).length (Nat.le_refl _)).1
 rw [o9_ (.inr (Nat.le_refl _)), ← z1_] at h1
 refine ⟨h1, fun x hx => ?_⟩
 obtain ⟨k, k1, k2, k3, rfl⟩ := t7_ hx
 have q1 := sr_ h k1
 have q2 := ad9_ h k2
 refine ⟨?_, rfl⟩
 unfold sgB; dsimp only; omega
theorem x0_ {l : List Sl} (h : ∀ k, k < l.length → sok (l.getD k S0) = true) : ∀ k, k ≤ l.length → (sgN l k).Pairwise qp_ ∧ ∀ x ∈ sgN l k, sgB k x
 | 0, _ => by simp [sgN]
 | k + 1, hk => by
  obtain ⟨h1, h2⟩ := x0_ h k (by omega)
  obtain ⟨h3, h4⟩ := aeq_ (i := k) (h k (by omega))
  refine ⟨List.pairwise_append.2 ⟨h1, h3, fun a ha b hb => ?_⟩, fun x hx => ?_⟩
  ·have q1 := h2 a ha
   have q2 := (h4 b hb).2
   unfold sgB at q1
   exact .inl (by omega)
  ·rcases List.mem_append.1 hx with hx | hx
   ·have q1 := h2 x hx
    unfold sgB at q1 ⊢; omega
   ·have := (h4 x hx).1
    exact_mod_cast this
theorem tk_ (l : List Sl) : (sgP l).Pairwise qp_ ∧ ∀ x ∈ sgP l, sgB 16 x := by
 unfold sgP
 split
 ·rename_i h
  have h0 := b0_ h
  obtain ⟨h1, h2⟩ := x0_ h0.2.2 l.length (Nat.le_refl _)
  exact ⟨h1, fun x hx => by have := h2 x hx; unfold sgB at this ⊢; omega⟩
 ·simp
def oc_ (l : List Sg) (k : Nat) : Bool :=
 decide (0 ≤ (l.getD k G0).1) && decide ((l.getD k G0).1 ≤ 15) && (decide (0 ≤ (l.getD k G0).2.1) && decide ((l.getD k G0).2.1 ≤ 119)) && (decide (0 ≤ (l.getD k G0).2.2.1) && decide ((l.getD k G0).2.2.1 ≤ 15) && (decide (0 ≤ (l.getD k G0).2.2.2) && decide ((l.getD k G0).2.2.2 ≤ 119))) &&
  (decide (k = 0) || (decide ((l.getD (k - 1) G0).1 < (l.getD k G0).1) || decide ((l.getD (k - 1) G0).1 = (l.getD k G0).1) && decide ((l.getD (k - 1) G0).2.1 < (l.getD k G0).2.1)))
def rp_ (l : List Sg) : Bool := (List.range l.length).all (oc_ l) && decide (l.length ≤ 1280)
theorem y2_ (l : List Sl) : rp_ (sgP l) = true := by
 obtain ⟨h1, h2⟩ := tk_ l
 have h3 := zj_ l
 generalize sgP l = L at *
 simp only [rp_, Bool.and_eq_true, decide_eq_true_eq]
 refine ⟨List.all_eq_true.2 fun k hk => ?_, by omega⟩
 have hk : k < L.length := by simpa using hk
 have q := h2 _ (bh_ (d := G0) hk)
 unfold sgB at q
 have hp : k = 0 ∨ qp_ (L.getD (k - 1) G0) (L.getD k G0) := by
  rcases Nat.eq_zero_or_pos k with e | e
  ·exact .inl e
  ·refine .inr ?_
   have := List.pairwise_iff_getElem.1 h1 (k - 1) k (by omega) hk (by omega)
   rw [List.getD_eq_getElem?_getD, List.getElem?_eq_getElem (by omega), List.getD_eq_getElem?_getD, List.getElem?_eq_getElem hk]; exact this
 unfold oc_
 unfold qp_ at hp
 simp only [Bool.and_eq_true, Bool.or_eq_true, decide_eq_true_eq]
 omega
end
section
end
section
def n3_ (l : List Sg) (L c : Int) : Nat → Option Sg
 | 0 => none
 | k + 1 => if (l.getD k G0).1 = L ∧ (l.getD k G0).2.1 ≤ c then some (l.getD k G0) else n3_ l L c k
def le_ (l : List Sg) (L c : Int) : Option Sg := n3_ l L c l.length
theorem ju_ {l : List Sg} {L c : Int} {i : Nat} (hc : (l.getD i G0).1 = L ∧ (l.getD i G0).2.1 ≤ c) : ∀ m, i < m → (∀ j, i < j → j < m → ¬ ((l.getD j G0).1 = L ∧ (l.getD j G0).2.1 ≤ c)) → n3_ l L c m = some (l.getD i G0)
 | 0, h, _ => by omega
 | m + 1, h, hn => by
  rw [n3_]
  by_cases e : i = m
  ·subst e; rw [if_pos hc]
  ·rw [if_neg (hn m (by omega) (by omega))]
   exact ju_ hc m (by omega) fun j h1 h2 => hn j h1 (by omega)
def lv_ (l : List Sg) (L c : Int) : Option Sg := if rp_ l then le_ l L c else none
def ea_ (L c : Int) (x : Sg) : Bool := decide (x.2.2.1 = L) && decide (x.2.2.2 = c)
def qb_ (l : List Sg) (L c : Int) : List Sg := if rp_ l then l.filter (ea_ L c) else []
theorem m3_ {α : Type} {p : α → Bool} {g : α} : ∀ {l : List α}, l.Nodup → g ∈ l → p g = true → (∀ x ∈ l, p x = true → x = g) → l.filter p = [g]
 | [], _, h, _, _ => by simp at h
 | a :: l, hn, hg, hp, hu => by
  obtain ⟨n1, n2⟩ := List.nodup_cons.1 hn
  by_cases e : a = g
  ·subst e
   rw [List.filter_cons_of_pos hp]
   congr 1
   refine List.filter_eq_nil_iff.2 fun x hx hpx => n1 ?_
   rw [← hu x (by simp [hx]) hpx]; exact hx
  ·have hm : g ∈ l := by
    rcases List.mem_cons.1 hg with h | h
    ·exact absurd h.symm e
    ·exact h
   rw [List.filter_cons_of_neg (fun q => e (hu a (by simp) q))]
   exact m3_ n2 hm hp fun x hx => hu x (by simp [hx])
theorem ua_ {l : List Sl} {x : Sg} : ∀ {k : Nat}, k ≤ l.length → x ∈ sgN l k → ∃ i, i < k ∧ x ∈ sgS i (l.getD i S0)
 | 0, _, h => by simp [sgN] at h
 | k + 1, hk, h => by
  rw [sgN] at h
  rcases List.mem_append.1 h with h | h
  ·obtain ⟨i, h1, h2⟩ := ua_ (k := k) (by omega) h
   exact ⟨i, by omega, h2⟩
  ·exact ⟨k, by omega, h⟩
theorem iu_ {l : List Sl} {x : Sg} (h : x ∈ sgP l) : pok l = true ∧ ∃ i k : Nat, i < l.length ∧ k < (tkE (l.getD i S0)).length ∧ k < (emF (l.getD i S0)).length ∧ 0 ≤ (emF (l.getD i S0)).getD k 0 ∧ x = ((i : Int), ((tkE (l.getD i S0)).getD k T0k).col, (i : Int), (emF (l.getD i S0)).getD k 0) := by
 unfold sgP at h
 split at h
 ·rename_i hp
  obtain ⟨i, h1, h2⟩ := ua_ (Nat.le_refl _) h
  obtain ⟨k, k1, k2, k3, k4⟩ := t7_ h2
  exact ⟨hp, i, k, h1, k1, k2, k3, k4⟩
 ·simp at h
theorem vv_ (l : List Sl) : (sgP l).Nodup := by
 refine (tk_ l).1.imp fun {a b} h e => ?_
 subst e
 unfold qp_ at h; omega
theorem xf_ {l : List Sl} {g : Sg} (hg : g ∈ sgP l) : qb_ (sgP l) g.2.2.1 g.2.2.2 = [g] := by
 unfold qb_
 rw [if_pos (y2_ l)]
 refine m3_ (vv_ l) hg (by simp [ea_]) fun x hx hp => ?_
 obtain ⟨hp0, i, k, i1, k1, k2, k3, rfl⟩ := iu_ hg
 obtain ⟨_, i', k', i1', k1', k2', k3', rfl⟩ := iu_ hx
 simp only [ea_, Bool.and_eq_true, decide_eq_true_eq] at hp
 have e : i' = i := by omega
 subst e
 have := aao_ ((b0_ hp0).2.2 i' i1) k2' k2 k3' hp.2
 subst this; rfl
theorem yl_ {l : List Sl} {i : Nat} (hi : i < (sgP l).length) {k L : Nat} (hL : ((sgP l).getD i G0).1 = L) (hk : k < (tkE (l.getD L S0)).length) (hc : ((tkE (l.getD L S0)).getD k T0k).col = ((sgP l).getD i G0).2.1) :
  lv_ (sgP l) L (((tkE (l.getD L S0)).getD k T0k).col + ((tkE (l.getD L S0)).getD k T0k).s.length - 1) = some ((sgP l).getD i G0) := by
 have hm := bh_ (d := G0) hi
 obtain ⟨hp0, i1, k1, l1, l2, l3, l4, e⟩ := iu_ hm
 have eL : i1 = L := by rw [e] at hL; dsimp only at hL; omega
 subst eL
 have hs := (b0_ hp0).2.2 i1 l1
 have hb := sr_ hs hk
 unfold lv_ le_
 rw [if_pos (y2_ l)]
 refine ju_ ⟨hL, by omega⟩ _ hi fun j h1 h2 hc2 => ?_
 have hpw := List.pairwise_iff_getElem.1 (tk_ l).1 i j hi h2 h1
 have q1 : (sgP l)[i] = (sgP l).getD i G0 := by rw [List.getD_eq_getElem?_getD, List.getElem?_eq_getElem hi]; rfl
 have q2 : (sgP l)[j] = (sgP l).getD j G0 := by rw [List.getD_eq_getElem?_getD, List.getElem?_eq_getElem h2]; rfl
 rw [q1, q2] at hpw
 obtain ⟨_, i2, k2, m1, m2, m3, m4, e2⟩ := iu_ (bh_ (d := G0) h2)
 generalize (sgP l).getD j G0 = y at *
 generalize (sgP l).getD i G0 = x at *
 have e3 : i2 = i1 := by rw [e2] at hc2; dsimp only at hc2; omega
 subst e3
 unfold qp_ at hpw
 have hlt : x.2.1 < y.2.1 := by omega
 have hy : y.2.1 = ((tkE (l.getD i2 S0)).getD k2 T0k).col := by rw [e2]
 rcases Nat.lt_trichotomy k k2 with q | q | q
 ·have := tf_ hs q m2; omega
 ·subst q; omega
 ·have := tf_ hs q hk; omega
end
end Go.Proofs.YtefmbmafdgedmaaGreatDoor
