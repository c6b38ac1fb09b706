/- Whence the words of a program came, plainly. Conditions: none. -/
import Derived.Test.YtcigkafioinfoaaGreatDoorKy
import Derived.Test.YtcigkafioinfoaaGreatDoorKo
import Derived.Test.YtcigkafioinfoaaGreatDoorKn
import Derived.Test.YtcigkafioinfoaaGreatDoorKq
set_option linter.unusedVariables false
set_option linter.unusedSimpArgs false
namespace Go.Proofs.YtcigkafioinfoaaGreatDoor
section
abbrev Sg := Int × Int × Int × Int
def sgC (s : Sg) : List V := [.i .i64 s.1, .i .i64 s.2.1, .i .i64 s.2.2.1, .i .i64 s.2.2.2]
def sgR (l : List Sg) : List (List V) := l.map sgC
def G0 : Sg := (0, 0, 0, 0)
theorem ai_ (l : List Sg) : (sgR l).length = l.length := by simp [sgR]
theorem af_ : ∀ l : List Sg, cz_ (sgR l) = true
 | [] => rfl
 | _ :: r => by show (dp_ [_, _, _, _] && cz_ (sgR r)) = true; rw [af_ r]; rfl
theorem ru_ (a b : List Sg) : sgR (a ++ b) = sgR a ++ sgR b := by simp [sgR]
theorem ni_ {l : List Sg} {k : Nat} (h : k < l.length) : (sgR l).getD k [] = sgC (l.getD k G0) := by
 simp [sgR, T8_, T6_ h]
theorem cc_ (l : List Sg) : (∀ r, r ∈ sgR l → r.length = 4) = True := eq_true fun r hr => by obtain ⟨t, _, rfl⟩ := List.mem_map.1 hr; rfl
def T0k : Tk := ⟨0, [], 0⟩
def sg1 (line : Int) (x : Tk × Int) : Option Sg := if 0 ≤ x.2 then some (line, x.1.col, line, x.2) else none
def sgs (line : Int) (ts : List Tk) (fs : List Int) : List Sg := (ts.zip fs).filterMap (sg1 line)
def sgK (line : Int) (ts : List Tk) (fs : List Int) (k : Nat) : List Sg := ((ts.zip fs).take k).filterMap (sg1 line)
theorem kr_ (line : Int) (ts : List Tk) (fs : List Int) : sgK line ts fs 0 = [] := rfl
theorem dr_ {line : Int} {ts : List Tk} {fs : List Int} {k : Nat} (h1 : k < ts.length) (h2 : k < fs.length) : sgK line ts fs (k + 1) = sgK line ts fs k ++ (if 0 ≤ fs.getD k 0 then [(line, (ts.getD k T0k).col, line, fs.getD k 0)] else []) := by
 have hz : k < (ts.zip fs).length := by rw [List.length_zip]; omega
 unfold sgK
 rw [List.take_add_one, T6_ hz, List.filterMap_append]
 congr 1
 rw [List.getElem_zip, T8_, T6_ h2, T8_, T6_ h1]
 simp only [Option.toList, Option.getD_some, List.filterMap_cons, List.filterMap_nil, sg1]
 split <;> simp_all
theorem xd_ {line : Int} {ts : List Tk} {fs : List Int} {k : Nat} (h : ts.length ≤ k ∨ fs.length ≤ k) : sgK line ts fs k = sgs line ts fs := by
 unfold sgK sgs
 rw [T1_]
 rw [List.length_zip]; omega
theorem dm_ (line : Int) (ts : List Tk) (fs : List Int) (k : Nat) : (sgK line ts fs k).length ≤ k := by
 unfold sgK
 have := List.length_filterMap_le (sg1 line) ((ts.zip fs).take k)
 rw [List.length_take] at this; omega
theorem adg_ (line : Int) (ts : List Tk) (fs : List Int) : (sgs line ts fs).length ≤ fs.length := by
 unfold sgs
 have := List.length_filterMap_le (sg1 line) (ts.zip fs)
 rw [List.length_zip] at this; omega
def sgS (i : Nat) (s : Sl) : List Sg := sgs i ((dl_ (emT s)).getD []) (emF s)
def sgN (l : List Sl) : Nat → List Sg
 | 0 => []
 | k + 1 => sgN l k ++ sgS k (l.getD k S0)
def sgP (l : List Sl) : List Sg := if pok l then sgN l l.length else []
theorem ad8_ {s : Sl} (h : sok s = true) : dl_ (emT s) = some (tm_ 0 (bw (bof s))) := by rw [xx_ h]; exact yp_ (v4_ h)
theorem acw_ (c : Int) (l : List Str) : (tm_ c l).length = l.length := by rw [← List.length_map (f := Tk.s), ab4_]
theorem wx_ {s : Sl} (h : sok s = true) : (emF s).length = (bw (bof s)).length := by
 have q := hh_ (d7_ h)
 unfold emF; rw [if_pos h, ← w7_ (d7_ h), gw_]
 rw [← q.2, List.length_map]
theorem or_ {s : Sl} (h : sok s = true) : ((dl_ (emT s)).getD []).length = (emF s).length := by
 rw [ad8_ h, Option.getD_some, acw_, wx_ h]
theorem ry_ {s : Sl} (h : sok s = true) : (emF s).length ≤ 76 := by
 rw [wx_ h]; exact (pu_ (hx_ (d7_ h))).1
theorem cy_ {i : Nat} {s : Sl} (h : sok s = true) : (sgS i s).length ≤ 76 := by
 have := adg_ i ((dl_ (emT s)).getD []) (emF s)
 have := ry_ h
 unfold sgS; omega
theorem wn_ {l : List Sl} (h : ∀ k, k < l.length → sok (l.getD k S0) = true) : ∀ k, k ≤ l.length → (sgN l k).length ≤ 76 * k
 | 0, _ => by simp [sgN]
 | k + 1, hk => by
  have h1 := wn_ h k (by omega)
  have h2 := cy_ (i := k) (h k (by omega))
  rw [sgN, T2_]; omega
theorem c5_ {l : List Sl} (h : pok l = true) {k : Nat} (hk : k ≤ l.length) : (sgN l k).length ≤ 1216 := by
 have h0 := co_ h
 have := wn_ h0.2.2 k hk
 omega
end
section
set_option maxRecDepth 100000
set_option maxHeartbeats 4000000
theorem y4_ (l : List Sg) (hl : l.length < 1099511627776) : ACall En 102 [.sl false (sgR l)] [] [.sl false (sgR l)] [] := by
 refine an_ (fn := Tryz.f102) [] Tryz.func102 rfl rfl (by simp) fun C => ?_
 rw [bb_]
 simp only [Tryz.ntmps102, T7_, List.length_nil, Nat.reduceAdd, Nat.reduceSub, List.replicate_succ, List.replicate_zero, List.cons_append, List.nil_append, bu_]
 refine .seq (.rgn [] (by simp only [go_sem, seval, af_, ai_]; rfl) ?_ ?_)
 ·first | trivial | simp
 refine .seq (.rgn [] (by simp only [go_sem, seval, af_, ai_]; rfl) ?_ ?_)
 ·first | trivial | simp
 refine .ret ⟨.inr rfl, ?_⟩
 exact Out.plainL (by simp only [Tryz.results102]; rfl) (by simp only [ba_, bs_, go_sem, seval, af_, ai_] <;> (split <;> rfl)) (by simp only [bq_, go_sem, seval, af_, ai_] <;> (rw [T1_ (by rw [ai_]; exact Nat.le_refl _)]; exact bh_ _)) (by simp only [go_sem, seval, af_, ai_])
theorem sz_ (i : Int) (t : Str) (fs : List Int) (ht : t.length ≤ 281474976710656) (hl : ((dl_ t).getD []).length ≤ fs.length) (hf : fs.length ≤ 1000000) : ACall En 101 [.i .i64 i, .s t, .sl false (inR fs)] [] [.sl false (sgR (sgs i ((dl_ t).getD []) fs))] [] := by
 have T := x9_ t ht
 generalize (dl_ t).getD [] = ts at *
 refine an_ (fn := Tryz.f101) [] Tryz.func101 rfl rfl (by simp) fun C => ?_
 rw [bb_]
 simp only [Tryz.ntmps101, T7_, List.length_nil, Nat.reduceAdd, Nat.reduceSub, List.replicate_succ, List.replicate_zero, List.cons_append, List.nil_append, bu_]
 refine .seq (.rgn [] (by simp only [go_sem, seval, a1_, ar_, a0_, ah_, af_]; rfl) ?_ ?_)
 ·(first | trivial | (simp; done) | (simp only [T3_] at h20; have q := dm_ i ts fs k; simp [cm_, ai_]; omega))
 refine .seq (.rgn [br_ T] (by simp only [go_sem, seval, a1_, ar_, a0_, ah_, af_]; rfl) ?_ ?_)
 ·(first | trivial | (simp; done) | (simp only [T3_] at h20; have q := dm_ i ts fs k; simp [cm_, ai_]; omega))
 refine .seq (.rgn [] (by simp only [go_sem, seval, a1_, ar_, a0_, ah_, af_]; rfl) ?_ ?_)
 ·(first | trivial | (simp; done) | (simp only [T3_] at h20; have q := dm_ i ts fs k; simp [cm_, ai_]; omega))
 refine .seq (.seq (.rgn [] (by simp only [go_sem, seval, a1_, ar_, a0_, ah_, af_]; rfl) ?_ ?_))
 ·(first | trivial | (simp; done) | (simp only [T3_] at h20; have q := dm_ i ts fs k; simp [cm_, ai_]; omega))
 refine .block (.loopK (fun k : Nat => ⟨[.i .i64 i, .no, .sl false (inR fs), .no, .no, .no, .no, .no, .no, .ow 20 4 0 (sgK i ts fs k).length, .no, .no, .no, .no, .no, .no, .no, .sl false (tkR ts), .i .i64 ts.length, .i .i64 k, .no, .no, .no, .no, .no, .no, .no, .no, .no, .no, .no, .no, .no, .no, .no, .no, .no, .no, .no, .no, .no, .no, .no, .no, .no], bf_ [(20, ⟨98, 4, sgR (sgK i ts fs k)⟩)], us [20]⟩) (fun k : Nat => k ≤ ts.length) (fun k : Nat => ts.length - k) (0) ?_ ?_ (fun k hI => ?_))
 ·simp
 ·refine Can.trans (Can.ownSlot 9 20 98 4 (by simp only [go_sem, seval, a1_, ar_, a0_, ah_, af_] <;> rfl) (by simp only [go_sem, seval, a1_, ar_, a0_, ah_, af_]) (by simp only [go_sem, seval, a1_, ar_, a0_, ah_, af_] <;> rfl)) ?_
  exact Can.weak (Weak.lit (by simp only [go_sem, seval, a1_, ar_, a0_, ah_, af_, a2_, leV, az_, ay_, V.inn, us, T9_, Ta_] <;> (simp [kr_])) (by simp only [go_sem, seval, a1_, ar_, a0_, ah_, af_, a2_, leV, az_, ay_, V.inn, us, T9_, Ta_]) (by simp only [go_sem, seval, a1_, ar_, a0_, ah_, af_, a2_, leV, az_, ay_, V.inn, us, T9_, Ta_] <;> (simp [kr_, sgR])))
 refine .seq (.rgn [] (by simp only [go_sem, seval, a1_, ar_, a0_, ah_, af_]; rfl) ?_ ?_)
 ·(first | trivial | (simp; done) | (simp only [T3_] at h20; have q := dm_ i ts fs k; simp [cm_, ai_]; omega))
 refine .seq (.condB (by simp only [go_sem, seval, a1_, ar_, a0_, ah_, af_]; rfl) (by simp only [go_sem, seval, a1_, ar_, a0_, ah_, af_]) (fun h20 => ?_) (fun h20 => ?_))
 ·refine .skip (.seqJ (fun u : Unit => ⟨[.i .i64 i, .no, .sl false (inR fs), .no, .no, .no, .no, .no, .no, .ow 20 4 0 (sgK i ts fs (k + 1)).length, .no, .no, .no, .no, .no, .no, .no, .sl false (tkR ts), .i .i64 ts.length, .i .i64 k, .no, .no, .no, .no, .no, .no, .no, .no, .no, .no, .no, .no, .no, .no, .no, .no, .no, .no, .no, .no, .no, .no, .no, .no, .no], bf_ [(20, ⟨98, 4, sgR (sgK i ts fs (k + 1))⟩)], us [20]⟩) (fun u : Unit => True) ?_ (fun u hJ => ?_))
  ·refine .block (.seq (.rgn [] (by simp only [go_sem, seval, a1_, ar_, a0_, ah_, af_, w4_ (show k < ts.length by simpa using h20)]; rfl) ?_ ?_))
   ·(first | trivial | (simp; done) | (simp only [T3_] at h20; have q := dm_ i ts fs k; simp [cm_, ai_]; omega))
   refine .seq (.rgn [] (by simp only [go_sem, seval, a1_, ar_, a0_, ah_, af_, hj_ (show k < fs.length by (have h' : k < ts.length := (by simpa using h20)); omega)]; rfl) ?_ ?_)
   ·(first | trivial | (simp; done) | (simp only [T3_] at h20; have q := dm_ i ts fs k; simp [cm_, ai_]; omega))
   refine .condB (by simp only [go_sem, seval, a1_, ar_, a0_, ah_, af_]; rfl) (by simp only [go_sem, seval, a1_, ar_, a0_, ah_, af_]) (fun h28 => ?_) (fun h28 => ?_)
   ·refine .rgnD [] enM (by simp only [go_sem, seval, a1_, ar_, a0_, ah_, af_, hj_ (show k < fs.length by (have h' : k < ts.length := (by simpa using h20)); omega)]; rfl) (by rfl) ?_ ?_
    ·(first | trivial | (simp; done) | (simp only [T3_] at h20; have q := dm_ i ts fs k; simp [cm_, ai_]; omega))
    refine Exists.intro (()) ⟨?_, ?_⟩
    ·trivial
    refine Can.trans (Can.swap 52 20 (by decide) (by decide) (by decide) (by decide) (by simp only [go_sem, seval, a1_, ar_, a0_, ah_, af_, V.cl]) (by simp only [go_sem, seval, a1_, ar_, a0_, ah_, af_, V.cl]) (by simp only [go_sem, seval, a1_, ar_, a0_, ah_, af_, b9_, sw, swM, rnB] <;> rfl) (by simp only [go_sem, seval, a1_, ar_, a0_, ah_, af_, b9_, sw, swM, rnB] <;> rfl) (by simp only [go_sem, seval, a1_, ar_, a0_, ah_, af_, b9_, sw, swM, rnB] <;> rfl)) ?_
    exact Can.weak (Weak.lit (by simp only [go_sem, seval, a1_, ar_, a0_, ah_, af_, a2_, leV, az_, ay_, V.inn, us, T9_, Ta_] <;> (simp only [T3_] at h20; first | (rw [dr_ (by omega) (by omega), if_pos (by simpa using h28)]; simp; done) | (rw [dr_ (by omega) (by omega), if_neg (by simpa using h28)]; simp; done))) (by simp only [go_sem, seval, a1_, ar_, a0_, ah_, af_, a2_, leV, az_, ay_, V.inn, us, T9_, Ta_]) (by simp only [go_sem, seval, a1_, ar_, a0_, ah_, af_, a2_, leV, az_, ay_, V.inn, us, T9_, Ta_] <;> (simp only [T3_] at h20; first | (rw [dr_ (by omega) (by omega), if_pos (by simpa using h28)]; simp [sgR, sgC, T0k]; done) | (rw [dr_ (by omega) (by omega), if_neg (by simpa using h28)]; simp; done))))
   ·refine .skip ?_
    refine Exists.intro (()) ⟨?_, ?_⟩
    ·trivial
    exact Can.weak (Weak.lit (by simp only [go_sem, seval, a1_, ar_, a0_, ah_, af_, a2_, leV, az_, ay_, V.inn, us, T9_, Ta_] <;> (simp only [T3_] at h20; first | (rw [dr_ (by omega) (by omega), if_pos (by simpa using h28)]; simp; done) | (rw [dr_ (by omega) (by omega), if_neg (by simpa using h28)]; simp; done))) (by simp only [go_sem, seval, a1_, ar_, a0_, ah_, af_, a2_, leV, az_, ay_, V.inn, us, T9_, Ta_]) (by simp only [go_sem, seval, a1_, ar_, a0_, ah_, af_, a2_, leV, az_, ay_, V.inn, us, T9_, Ta_] <;> (simp only [T3_] at h20; first | (rw [dr_ (by omega) (by omega), if_pos (by simpa using h28)]; simp [sgR, sgC, T0k]; done) | (rw [dr_ (by omega) (by omega), if_neg (by simpa using h28)]; simp; done))))
  refine .rgn [] (by simp only [go_sem, seval, a1_, ar_, a0_, ah_, af_]; rfl) ?_ ?_
  ·(first | trivial | (simp; done) | (simp only [T3_] at h20; have q := dm_ i ts fs k; simp [cm_, ai_]; omega))
  refine Exists.intro (k + 1) ⟨?_, ?_, ?_⟩
  ·simp at h20; omega
  ·simp at h20; omega
  exact Can.weak (Weak.lit (by simp only [go_sem, seval, a1_, ar_, a0_, ah_, af_, a2_, leV, az_, ay_, V.inn, us, T9_, Ta_] <;> (rw [bv_ (by simp at h20; omega) (by simp at h20; omega)]; simp)) (by simp only [go_sem, seval, a1_, ar_, a0_, ah_, af_, a2_, leV, az_, ay_, V.inn, us, T9_, Ta_]) (by simp only [go_sem, seval, a1_, ar_, a0_, ah_, af_, a2_, leV, az_, ay_, V.inn, us, T9_, Ta_]))
 ·refine .exit (.seq (.rgn [] (by simp only [go_sem, seval, a1_, ar_, a0_, ah_, af_]; rfl) ?_ ?_))
  ·(first | trivial | (simp; done) | (simp only [T3_] at h20; have q := dm_ i ts fs k; simp [cm_, ai_]; omega))
  refine .frz 20 (by simp only [go_sem, seval, a1_, ar_, a0_, ah_, af_]; rfl) (by simp only [go_sem, seval, a1_, ar_, a0_, ah_, af_]) (by simp only [go_sem, seval, a1_, ar_, a0_, ah_, af_]; rfl) (by simp only [go_sem, seval, a1_, ar_, a0_, ah_, af_]; rfl) ?_
  refine .ret ⟨.inr rfl, ?_⟩
  exact Out.plain (by simp only [Tryz.results101]; rfl) (by simp only [ba_, bs_, go_sem, seval, a1_, ar_, a0_, ah_, af_] <;> (split <;> rfl)) (by simp only [bq_, go_sem, seval, a1_, ar_, a0_, ah_, af_] <;> (simp only [T4_] at h20; rw [xd_ (.inl (by omega))]; simp [T1_, ai_, peel])) (by simp only [go_sem, seval, a1_, ar_, a0_, ah_, af_])
theorem t7_ (l : List Sl) (hs : jo_ l = true) (hl : l.length < 4611686018427387904) : ACall En 36 [.sl false (sR l)] [] [.sl false (sgR (sgP l))] [] := by
 have hE : ∀ k, pok l = true ∧ k < l.length → ACall En 101 [.i .i64 k, .s (emT (l.getD k S0)), .sl false (inR (emF (l.getD k S0)))] [] [.sl false (sgR (sgS k (l.getD k S0)))] [] := fun k h =>
  have hk := (co_ h.1).2.2 k h.2
  sz_ k _ _ (by have := ut_ hk; omega) (by rw [or_ hk]; exact Nat.le_refl _) (by have := ry_ hk; omega)
 refine an_ (fn := Tryz.f36) [] Tryz.func36 rfl rfl (by simp) fun C => ?_
 rw [bb_]
 simp only [Tryz.ntmps36, T7_, List.length_nil, Nat.reduceAdd, Nat.reduceSub, List.replicate_succ, List.replicate_zero, List.cons_append, List.nil_append, bu_]
 refine .seq (.rgn [] (by simp only [go_sem, seval, aq_, am_, aa_, ah_, af_, ai_]; rfl) ?_ ?_)
 ·(first | trivial | (simp; done) | (simp only [T3_] at h14; have hk : k < l.length := (by omega); have h2 := (co_ hI.2).2.2 k hk; have q1 := c5_ hI.2 (k := k) (by omega); have q2 := cy_ (i := k) h2; first | exact ⟨hk, h2⟩ | omega | exact ⟨⟨hI.2, hk⟩, fun r hr => (by rw [cc_] at *; exact trivial), by simp, by omega⟩ | (refine ⟨⟨hI.2, hk⟩, of_eq_true (cc_ _), by simp, by omega⟩)))
 refine .seq (.seq (.rgn [br_ (pr_ l hs hl)] (by simp only [go_sem, seval, aq_, am_, aa_, ah_, af_, ai_]; rfl) ?_ ?_))
 ·(first | trivial | (simp; done) | (simp only [T3_] at h14; have hk : k < l.length := (by omega); have h2 := (co_ hI.2).2.2 k hk; have q1 := c5_ hI.2 (k := k) (by omega); have q2 := cy_ (i := k) h2; first | exact ⟨hk, h2⟩ | omega | exact ⟨⟨hI.2, hk⟩, fun r hr => (by rw [cc_] at *; exact trivial), by simp, by omega⟩ | (refine ⟨⟨hI.2, hk⟩, of_eq_true (cc_ _), by simp, by omega⟩)))
 refine .condB (by simp only [go_sem, seval, aq_, am_, aa_, ah_, af_, ai_]; rfl) (by simp only [go_sem, seval, aq_, am_, aa_, ah_, af_, ai_]) (fun h10 => ?_) (fun h10 => ?_)
 ·refine .seq (.rgn [] (by simp only [go_sem, seval, aq_, am_, aa_, ah_, af_, ai_]; rfl) ?_ ?_)
  ·(first | trivial | (simp; done) | (simp only [T3_] at h14; have hk : k < l.length := (by omega); have h2 := (co_ hI.2).2.2 k hk; have q1 := c5_ hI.2 (k := k) (by omega); have q2 := cy_ (i := k) h2; first | exact ⟨hk, h2⟩ | omega | exact ⟨⟨hI.2, hk⟩, fun r hr => (by rw [cc_] at *; exact trivial), by simp, by omega⟩ | (refine ⟨⟨hI.2, hk⟩, of_eq_true (cc_ _), by simp, by omega⟩)))
  refine .ret ⟨.inr rfl, ?_⟩
  exact Out.plainL (by simp only [Tryz.results36]; rfl) (by simp only [ba_, bs_, go_sem, seval, aq_, am_, aa_, ah_, af_, ai_] <;> (split <;> rfl)) (by simp only [bq_, go_sem, seval, aq_, am_, aa_, ah_, af_, ai_] <;> (simp at h10; simp [sgP, h10, sgR, ler])) (by simp only [go_sem, seval, aq_, am_, aa_, ah_, af_, ai_])
 ·refine .skip (.seq (.rgn [] (by simp only [go_sem, seval, aq_, am_, aa_, ah_, af_, ai_]; rfl) ?_ ?_))
  ·(first | trivial | (simp; done) | (simp only [T3_] at h14; have hk : k < l.length := (by omega); have h2 := (co_ hI.2).2.2 k hk; have q1 := c5_ hI.2 (k := k) (by omega); have q2 := cy_ (i := k) h2; first | exact ⟨hk, h2⟩ | omega | exact ⟨⟨hI.2, hk⟩, fun r hr => (by rw [cc_] at *; exact trivial), by simp, by omega⟩ | (refine ⟨⟨hI.2, hk⟩, of_eq_true (cc_ _), by simp, by omega⟩)))
  refine .seqJ (fun u : Unit => ⟨[.no, .no, .no, .sl false (sgR (sgN l l.length)), .no, .no, .no, .no, .no, .no, .no, .no, .no, .no, .no, .no, .no, .no, .no, .no, .no, .no, .no, .no, .no, .no, .no, .no, .no, .no, .no, .no], bf_ [], us []⟩) (fun u : Unit => pok l = true) ?_ (fun u hJ => ?_)
  ·refine .seq (.rgn [] (by simp only [go_sem, seval, aq_, am_, aa_, ah_, af_, ai_]; rfl) ?_ ?_)
   ·(first | trivial | (simp; done) | (simp only [T3_] at h14; have hk : k < l.length := (by omega); have h2 := (co_ hI.2).2.2 k hk; have q1 := c5_ hI.2 (k := k) (by omega); have q2 := cy_ (i := k) h2; first | exact ⟨hk, h2⟩ | omega | exact ⟨⟨hI.2, hk⟩, fun r hr => (by rw [cc_] at *; exact trivial), by simp, by omega⟩ | (refine ⟨⟨hI.2, hk⟩, of_eq_true (cc_ _), by simp, by omega⟩)))
   refine .block (.loopK (fun k : Nat => ⟨[.no, .no, .no, .ow 20 4 0 (sgN l k).length, .no, .no, .no, .no, .no, .no, .no, .sl false (sR l), .i .i64 l.length, .i .i64 k, .no, .no, .no, .no, .no, .no, .no, .no, .no, .no, .no, .no, .no, .no, .no, .no, .no, .no], bf_ [(20, ⟨98, 4, sgR (sgN l k)⟩)], us [20]⟩) (fun k : Nat => k ≤ l.length ∧ pok l = true) (fun k : Nat => l.length - k) (0) ?_ ?_ (fun k hI => ?_))
   ·exact ⟨by simp, by simpa using h10⟩
   ·refine Can.trans (Can.ownSlot 3 20 98 4 (by simp only [go_sem, seval, aq_, am_, aa_, ah_, af_, ai_] <;> rfl) (by simp only [go_sem, seval, aq_, am_, aa_, ah_, af_, ai_]) (by simp only [go_sem, seval, aq_, am_, aa_, ah_, af_, ai_] <;> rfl)) ?_
    exact Can.weak (Weak.lit (by simp only [go_sem, seval, aq_, am_, aa_, ah_, af_, ai_, a2_, leV, az_, ay_, V.inn, us, T9_, Ta_] <;> (simp [sgN])) (by simp only [go_sem, seval, aq_, am_, aa_, ah_, af_, ai_, a2_, leV, az_, ay_, V.inn, us, T9_, Ta_]) (by simp only [go_sem, seval, aq_, am_, aa_, ah_, af_, ai_, a2_, leV, az_, ay_, V.inn, us, T9_, Ta_] <;> (simp [sgN, sgR])))
   refine .seq (.rgn [] (by simp only [go_sem, seval, aq_, am_, aa_, ah_, af_, ai_]; rfl) ?_ ?_)
   ·(first | trivial | (simp; done) | (simp only [T3_] at h14; have hk : k < l.length := (by omega); have h2 := (co_ hI.2).2.2 k hk; have q1 := c5_ hI.2 (k := k) (by omega); have q2 := cy_ (i := k) h2; first | exact ⟨hk, h2⟩ | omega | exact ⟨⟨hI.2, hk⟩, fun r hr => (by rw [cc_] at *; exact trivial), by simp, by omega⟩ | (refine ⟨⟨hI.2, hk⟩, of_eq_true (cc_ _), by simp, by omega⟩)))
   refine .seq (.condB (by simp only [go_sem, seval, aq_, am_, aa_, ah_, af_, ai_]; rfl) (by simp only [go_sem, seval, aq_, am_, aa_, ah_, af_, ai_]) (fun h14 => ?_) (fun h14 => ?_))
   ·refine .skip (.seq (.block (.seq (.rgn [] (by simp only [go_sem, seval, aq_, am_, aa_, ah_, af_, ai_, g9_ (show k < l.length by simpa using h14), aa_]; rfl) ?_ ?_))))
    ·(first | trivial | (simp; done) | (simp only [T3_] at h14; have hk : k < l.length := (by omega); have h2 := (co_ hI.2).2.2 k hk; have q1 := c5_ hI.2 (k := k) (by omega); have q2 := cy_ (i := k) h2; first | exact ⟨hk, h2⟩ | omega | exact ⟨⟨hI.2, hk⟩, fun r hr => (by rw [cc_] at *; exact trivial), by simp, by omega⟩ | (refine ⟨⟨hI.2, hk⟩, of_eq_true (cc_ _), by simp, by omega⟩)))
    refine .seq (.rgn [dw_ (k < l.length ∧ sok (l.getD k S0) = true) (fun h => za_ (l.getD k S0) h.2 (gp_ hs h.1))] (by simp only [go_sem, seval, aq_, am_, aa_, ah_, af_, ai_]; rfl) ?_ ?_)
    ·(first | trivial | (simp; done) | (simp only [T3_] at h14; have hk : k < l.length := (by omega); have h2 := (co_ hI.2).2.2 k hk; have q1 := c5_ hI.2 (k := k) (by omega); have q2 := cy_ (i := k) h2; first | exact ⟨hk, h2⟩ | omega | exact ⟨⟨hI.2, hk⟩, fun r hr => (by rw [cc_] at *; exact trivial), by simp, by omega⟩ | (refine ⟨⟨hI.2, hk⟩, of_eq_true (cc_ _), by simp, by omega⟩)))
    refine .rgn [dw_ (pok l = true ∧ k < l.length) (hE k)] (by simp only [go_sem, seval, aq_, am_, aa_, ah_, af_, ai_]; rfl) ?_ ?_
    ·(first | trivial | (simp; done) | (simp only [T3_] at h14; have hk : k < l.length := (by omega); have h2 := (co_ hI.2).2.2 k hk; have q1 := c5_ hI.2 (k := k) (by omega); have q2 := cy_ (i := k) h2; first | exact ⟨hk, h2⟩ | omega | exact ⟨⟨hI.2, hk⟩, fun r hr => (by rw [cc_] at *; exact trivial), by simp, by omega⟩ | (refine ⟨⟨hI.2, hk⟩, of_eq_true (cc_ _), by simp, by omega⟩)))
    refine .rgn [] (by simp only [go_sem, seval, aq_, am_, aa_, ah_, af_, ai_]; rfl) ?_ ?_
    ·(first | trivial | (simp; done) | (simp only [T3_] at h14; have hk : k < l.length := (by omega); have h2 := (co_ hI.2).2.2 k hk; have q1 := c5_ hI.2 (k := k) (by omega); have q2 := cy_ (i := k) h2; first | exact ⟨hk, h2⟩ | omega | exact ⟨⟨hI.2, hk⟩, fun r hr => (by rw [cc_] at *; exact trivial), by simp, by omega⟩ | (refine ⟨⟨hI.2, hk⟩, of_eq_true (cc_ _), by simp, by omega⟩)))
    refine Exists.intro (k + 1) ⟨?_, ?_, ?_⟩
    ·simp at h14; exact ⟨by omega, hI.2⟩
    ·simp at h14; omega
    refine Can.trans (Can.swap 38 20 (by decide) (by decide) (by decide) (by decide) (by simp only [go_sem, seval, aq_, am_, aa_, ah_, af_, ai_, V.cl]) (by simp only [go_sem, seval, aq_, am_, aa_, ah_, af_, ai_, V.cl]) (by simp only [go_sem, seval, aq_, am_, aa_, ah_, af_, ai_, b9_, sw, swM, rnB] <;> rfl) (by simp only [go_sem, seval, aq_, am_, aa_, ah_, af_, ai_, b9_, sw, swM, rnB] <;> rfl) (by simp only [go_sem, seval, aq_, am_, aa_, ah_, af_, ai_, b9_, sw, swM, rnB] <;> rfl)) ?_
    exact Can.weak (Weak.lit (by simp only [go_sem, seval, aq_, am_, aa_, ah_, af_, ai_, a2_, leV, az_, ay_, V.inn, us, T9_, Ta_] <;> (rw [bv_ (by simp at h14; omega) (by simp at h14; omega)]; simp [sgN])) (by simp only [go_sem, seval, aq_, am_, aa_, ah_, af_, ai_, a2_, leV, az_, ay_, V.inn, us, T9_, Ta_]) (by simp only [go_sem, seval, aq_, am_, aa_, ah_, af_, ai_, a2_, leV, az_, ay_, V.inn, us, T9_, Ta_] <;> (simp [sgN, ru_])))
   ·refine .exit ?_
    refine Exists.intro (()) ⟨?_, ?_⟩
    ·exact hI.2
    refine Can.trans (Can.frz 20 (by simp only [go_sem, seval, aq_, am_, aa_, ah_, af_, ai_] <;> rfl) (by simp only [go_sem, seval, aq_, am_, aa_, ah_, af_, ai_]) (by simp only [go_sem, seval, aq_, am_, aa_, ah_, af_, ai_] <;> rfl) (by simp only [go_sem, seval, aq_, am_, aa_, ah_, af_, ai_] <;> rfl)) ?_
    exact Can.weak (Weak.lit (by simp only [go_sem, seval, aq_, am_, aa_, ah_, af_, ai_, a2_, leV, az_, ay_, V.inn, us, T9_, Ta_] <;> (simp at h14; (obtain rfl : k = l.length := (by omega)); simp [T1_, ai_, leV, bh_])) (by simp only [go_sem, seval, aq_, am_, aa_, ah_, af_, ai_, a2_, leV, az_, ay_, V.inn, us, T9_, Ta_]) (by simp only [go_sem, seval, aq_, am_, aa_, ah_, af_, ai_, a2_, leV, az_, ay_, V.inn, us, T9_, Ta_]))
  refine .seq (.rgn [dw_ (pok l = true) (fun h => y4_ (sgN l l.length) (by have := c5_ h (Nat.le_refl _); omega))] (by simp only [go_sem, seval, aq_, am_, aa_, ah_, af_, ai_]; rfl) ?_ ?_)
  ·(first | trivial | (simp; done) | (simp only [T3_] at h14; have hk : k < l.length := (by omega); have h2 := (co_ hI.2).2.2 k hk; have q1 := c5_ hI.2 (k := k) (by omega); have q2 := cy_ (i := k) h2; first | exact ⟨hk, h2⟩ | omega | exact ⟨⟨hI.2, hk⟩, fun r hr => (by rw [cc_] at *; exact trivial), by simp, by omega⟩ | (refine ⟨⟨hI.2, hk⟩, of_eq_true (cc_ _), by simp, by omega⟩)))
  refine .ret ⟨.inr rfl, ?_⟩
  exact Out.plainL (by simp only [Tryz.results36]; rfl) (by simp only [ba_, bs_, go_sem, seval, aq_, am_, aa_, ah_, af_, ai_] <;> (split <;> rfl)) (by simp only [bq_, go_sem, seval, aq_, am_, aa_, ah_, af_, ai_] <;> (simp [sgP, hJ, bh_, leV])) (by simp only [go_sem, seval, aq_, am_, aa_, ah_, af_, ai_])
end
section
set_option maxRecDepth 100000
set_option maxHeartbeats 4000000
end
end Go.Proofs.YtcigkafioinfoaaGreatDoor
