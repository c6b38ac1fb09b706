/- Whence the words of a program came, plainly. Conditions: none. -/
import Derived.Test.YtpikbndepapbhaaGreatDoorKy
import Derived.Test.YtpikbndepapbhaaGreatDoorKo
import Derived.Test.YtpikbndepapbhaaGreatDoorKn
import Derived.Test.YtpikbndepapbhaaGreatDoorKq
set_option linter.unusedVariables false
set_option linter.unusedSimpArgs false
namespace Go.Proofs.YtpikbndepapbhaaGreatDoor
section
abbrev Sg := Int × Int × Int × Int
def sgC (s : Sg) : List V := [.i .i64 s.1, .i .i64 s.2.1, .i .i64 s.2.2.1, .i .i64 s.2.2.2]
def sgR (l : List Sg) : List (List V) := l.map sgC
def G0 : Sg := (0, 0, 0, 0)
theorem az_ (l : List Sg) : (sgR l).length = l.length := by simp [sgR]
theorem aq_ : ∀ l : List Sg, b6_ (sgR l) = true
 | [] => rfl
 | _ :: r => by show (ci_ [_, _, _, _] && b6_ (sgR r)) = true; rw [aq_ r]; rfl
theorem z2_ (a b : List Sg) : sgR (a ++ b) = sgR a ++ sgR b := by simp [sgR]
theorem tp_ {l : List Sg} {k : Nat} (h : k < l.length) : (sgR l).getD k [] = sgC (l.getD k G0) := by
 simp [sgR, T8_, T6_ h]
theorem et_ (l : List Sg) : (∀ r, r ∈ sgR l → r.length = 4) = True := eq_true fun r hr => by obtain ⟨t, _, rfl⟩ := List.mem_map.1 hr; rfl
def T0k : Tk := ⟨0, [], 0⟩
def sg1 (line : Int) (x : Tk × Int) : Option Sg := if 0 ≤ x.2 then some (line, x.1.col, line, x.2) else none
def sgs (line : Int) (ts : List Tk) (fs : List Int) : List Sg := (ts.zip fs).filterMap (sg1 line)
def sgK (line : Int) (ts : List Tk) (fs : List Int) (k : Nat) : List Sg := ((ts.zip fs).take k).filterMap (sg1 line)
theorem ww_ (line : Int) (ts : List Tk) (fs : List Int) : sgK line ts fs 0 = [] := rfl
theorem gi_ {line : Int} {ts : List Tk} {fs : List Int} {k : Nat} (h1 : k < ts.length) (h2 : k < fs.length) : sgK line ts fs (k + 1) = sgK line ts fs k ++ (if 0 ≤ fs.getD k 0 then [(line, (ts.getD k T0k).col, line, fs.getD k 0)] else []) := by
 have hz : k < (ts.zip fs).length := by rw [List.length_zip]; omega
 unfold sgK
 rw [List.take_add_one, T6_ hz, List.filterMap_append]
 congr 1
 rw [List.getElem_zip, T8_, T6_ h2, T8_, T6_ h1]
 simp only [Option.toList, Option.getD_some, List.filterMap_cons, List.filterMap_nil, sg1]
 split <;> simp_all
theorem ah6_ {line : Int} {ts : List Tk} {fs : List Int} {k : Nat} (h : ts.length ≤ k ∨ fs.length ≤ k) : sgK line ts fs k = sgs line ts fs := by
 unfold sgK sgs
 rw [T1_]
 rw [List.length_zip]; omega
theorem gg_ (line : Int) (ts : List Tk) (fs : List Int) (k : Nat) : (sgK line ts fs k).length ≤ k := by
 unfold sgK
 have := List.length_filterMap_le (sg1 line) ((ts.zip fs).take k)
 rw [List.length_take] at this; omega
theorem fh_ (line : Int) (ts : List Tk) (fs : List Int) : (sgs line ts fs).length ≤ fs.length := by
 unfold sgs
 have := List.length_filterMap_le (sg1 line) (ts.zip fs)
 rw [List.length_zip] at this; omega
def sgS (i : Nat) (s : Sl) : List Sg := sgs i ((bv_ (emT s)).getD []) (emF s)
def sgN (l : List Sl) : Nat → List Sg
 | 0 => []
 | k + 1 => sgN l k ++ sgS k (l.getD k S0)
def sgP (l : List Sl) : List Sg := if pok l then sgN l l.length else []
theorem ai2_ {s : Sl} (h : sok s = true) : bv_ (emT s) = some (tg_ 0 (bw (bof s))) := by rw [rv_ h]; exact ab2_ (uh_ h)
theorem acz_ (c : Int) (l : List Str) : (tg_ c l).length = l.length := by rw [← List.length_map (f := Tk.s), t6_]
theorem tn_ {s : Sl} (h : sok s = true) : (emF s).length = (bw (bof s)).length := by
 have q := g1_ (dn_ h)
 unfold emF; rw [if_pos h, ← tt_ (dn_ h), f9_]
 rw [← q.2, List.length_map]
theorem ac5_ {s : Sl} (h : sok s = true) : ((bv_ (emT s)).getD []).length = (emF s).length := by
 rw [ai2_ h, Option.getD_some, acz_, tn_ h]
theorem xq_ {s : Sl} (h : sok s = true) : (emF s).length ≤ 76 := by
 rw [tn_ h]; exact (p7_ (hj_ (dn_ h))).1
theorem aie_ {i : Nat} {s : Sl} (h : sok s = true) : (sgS i s).length ≤ 76 := by
 have := fh_ i ((bv_ (emT s)).getD []) (emF s)
 have := xq_ h
 unfold sgS; omega
theorem aaz_ {l : List Sl} (h : ∀ k, k < l.length → sok (l.getD k S0) = true) : ∀ k, k ≤ l.length → (sgN l k).length ≤ 76 * k
 | 0, _ => by simp [sgN]
 | k + 1, hk => by
  have h1 := aaz_ h k (by omega)
  have h2 := aie_ (i := k) (h k (by omega))
  rw [sgN, T2_]; omega
theorem ac8_ {l : List Sl} (h : pok l = true) {k : Nat} (hk : k ≤ l.length) : (sgN l k).length ≤ 1216 := by
 have h0 := aej_ h
 have := aaz_ h0.2.2 k hk
 omega
theorem ame_ (l : List Sl) : (sgP l).length ≤ 1216 := by
 unfold sgP; split
 ·rename_i h; exact ac8_ h (Nat.le_refl _)
 ·simp
theorem so_ : sok S0 = true := by decide
theorem agg_ : emT S0 = [] := by decide
theorem emF_S0 : emF S0 = [] := List.eq_nil_of_length_eq_zero (by rw [tn_ so_]; decide)
theorem al6_ (i : Nat) : sgS i S0 = [] := by unfold sgS sgs; rw [emF_S0]; simp
end
section
set_option maxRecDepth 100000
set_option maxHeartbeats 4000000
theorem ack_ (l : List Sg) (hl : l.length < 1099511627776) : ACall En 60 [.sl false (sgR l)] [] [.sl false (sgR l)] [] := by
 refine al_ (fn := Tryz.f60) [] Tryz.func60 rfl rfl (by simp) fun C => ?_
 rw [aw_]
 simp only [Tryz.ntmps60, T7_, List.length_nil, Nat.reduceAdd, Nat.reduceSub, List.replicate_succ, List.replicate_zero, List.cons_append, List.nil_append, bo_]
 refine .seq (.rgn [] (by simp only [go_sem, seval, aq_, az_]; rfl) ?_ ?_)
 ·first | trivial | simp
 refine .seq (.rgn [] (by simp only [go_sem, seval, aq_, az_]; rfl) ?_ ?_)
 ·first | trivial | simp
 refine .ret ⟨.inr rfl, ?_⟩
 exact Out.plainL (by simp only [Tryz.results60]; rfl) (by simp only [ay_, a6_, go_sem, seval, aq_, az_] <;> (split <;> rfl)) (by simp only [a5_, go_sem, seval, aq_, az_] <;> (rw [T1_ (by rw [az_]; exact Nat.le_refl _)]; exact a9_ _)) (by simp only [go_sem, seval, aq_, az_])
theorem ahm_ (i : Int) (t : Str) (fs : List Int) (ht : t.length ≤ 281474976710656) (hl : ((bv_ t).getD []).length ≤ fs.length) (hf : fs.length ≤ 1000000) : ACall En 59 [.i .i64 i, .s t, .sl false (inR fs)] [] [.sl false (sgR (sgs i ((bv_ t).getD []) fs))] [] := by
 have T := rm_ t ht
 generalize (bv_ t).getD [] = ts at *
 refine al_ (fn := Tryz.f59) [] Tryz.func59 rfl rfl (by simp) fun C => ?_
 rw [aw_]
 simp only [Tryz.ntmps59, T7_, List.length_nil, Nat.reduceAdd, Nat.reduceSub, List.replicate_succ, List.replicate_zero, List.cons_append, List.nil_append, bo_]
 refine .seq (.rgn [] (by simp only [go_sem, seval, av_, at_, ah_, ac_, aq_]; rfl) ?_ ?_)
 ·(first | trivial | (simp; done) | (simp only [T3_] at h20; have q := gg_ i ts fs k; simp [bz_, az_]; omega))
 refine .seq (.rgn [a4_ T] (by simp only [go_sem, seval, av_, at_, ah_, ac_, aq_]; rfl) ?_ ?_)
 ·(first | trivial | (simp; done) | (simp only [T3_] at h20; have q := gg_ i ts fs k; simp [bz_, az_]; omega))
 refine .seq (.rgn [] (by simp only [go_sem, seval, av_, at_, ah_, ac_, aq_]; rfl) ?_ ?_)
 ·(first | trivial | (simp; done) | (simp only [T3_] at h20; have q := gg_ i ts fs k; simp [bz_, az_]; omega))
 refine .seq (.seq (.rgn [] (by simp only [go_sem, seval, av_, at_, ah_, ac_, aq_]; rfl) ?_ ?_))
 ·(first | trivial | (simp; done) | (simp only [T3_] at h20; have q := gg_ i ts fs k; simp [bz_, az_]; omega))
 refine .block (.loopK (fun k : Nat => ⟨[.i .i64 i, .no, .sl false (inR fs), .no, .no, .no, .no, .no, .no, .ow 20 4 0 (sgK i ts fs k).length, .no, .no, .no, .no, .no, .no, .no, .sl false (tkR ts), .i .i64 ts.length, .i .i64 k, .no, .no, .no, .no, .no, .no, .no, .no, .no, .no, .no, .no, .no, .no, .no, .no, .no, .no, .no, .no, .no, .no, .no, .no, .no], be_ [(20, ⟨54, 4, sgR (sgK i ts fs k)⟩)], us [20]⟩) (fun k : Nat => k ≤ ts.length) (fun k : Nat => ts.length - k) (0) ?_ ?_ (fun k hI => ?_))
 ·simp
 ·refine Can.trans (Can.ownSlot 9 20 54 4 (by simp only [go_sem, seval, av_, at_, ah_, ac_, aq_] <;> rfl) (by simp only [go_sem, seval, av_, at_, ah_, ac_, aq_]) (by simp only [go_sem, seval, av_, at_, ah_, ac_, aq_] <;> rfl)) ?_
  exact Can.weak (Weak.lit (by simp only [go_sem, seval, av_, at_, ah_, ac_, aq_, as_, leV, ap_, ar_, V.inn, us, T9_, Ta_] <;> (simp [ww_])) (by simp only [go_sem, seval, av_, at_, ah_, ac_, aq_, as_, leV, ap_, ar_, V.inn, us, T9_, Ta_]) (by simp only [go_sem, seval, av_, at_, ah_, ac_, aq_, as_, leV, ap_, ar_, V.inn, us, T9_, Ta_] <;> (simp [ww_, sgR])))
 refine .seq (.rgn [] (by simp only [go_sem, seval, av_, at_, ah_, ac_, aq_]; rfl) ?_ ?_)
 ·(first | trivial | (simp; done) | (simp only [T3_] at h20; have q := gg_ i ts fs k; simp [bz_, az_]; omega))
 refine .seq (.condB (by simp only [go_sem, seval, av_, at_, ah_, ac_, aq_]; rfl) (by simp only [go_sem, seval, av_, at_, ah_, ac_, aq_]) (fun h20 => ?_) (fun h20 => ?_))
 ·refine .skip (.seqJ (fun u : Unit => ⟨[.i .i64 i, .no, .sl false (inR fs), .no, .no, .no, .no, .no, .no, .ow 20 4 0 (sgK i ts fs (k + 1)).length, .no, .no, .no, .no, .no, .no, .no, .sl false (tkR ts), .i .i64 ts.length, .i .i64 k, .no, .no, .no, .no, .no, .no, .no, .no, .no, .no, .no, .no, .no, .no, .no, .no, .no, .no, .no, .no, .no, .no, .no, .no, .no], be_ [(20, ⟨54, 4, sgR (sgK i ts fs (k + 1))⟩)], us [20]⟩) (fun u : Unit => True) ?_ (fun u hJ => ?_))
  ·refine .block (.seq (.rgn [] (by simp only [go_sem, seval, av_, at_, ah_, ac_, aq_, tq_ (show k < ts.length by simpa using h20)]; rfl) ?_ ?_))
   ·(first | trivial | (simp; done) | (simp only [T3_] at h20; have q := gg_ i ts fs k; simp [bz_, az_]; omega))
   refine .seq (.rgn [] (by simp only [go_sem, seval, av_, at_, ah_, ac_, aq_, en_ (show k < fs.length by (have h' : k < ts.length := (by simpa using h20)); omega)]; rfl) ?_ ?_)
   ·(first | trivial | (simp; done) | (simp only [T3_] at h20; have q := gg_ i ts fs k; simp [bz_, az_]; omega))
   refine .condB (by simp only [go_sem, seval, av_, at_, ah_, ac_, aq_]; rfl) (by simp only [go_sem, seval, av_, at_, ah_, ac_, aq_]) (fun h28 => ?_) (fun h28 => ?_)
   ·refine .rgnD [] enM (by simp only [go_sem, seval, av_, at_, ah_, ac_, aq_, en_ (show k < fs.length by (have h' : k < ts.length := (by simpa using h20)); omega)]; rfl) (by rfl) ?_ ?_
    ·(first | trivial | (simp; done) | (simp only [T3_] at h20; have q := gg_ i ts fs k; simp [bz_, az_]; omega))
    refine Exists.intro (()) ⟨?_, ?_⟩
    ·trivial
    refine Can.trans (Can.swap 52 20 (by decide) (by decide) (by decide) (by decide) (by simp only [go_sem, seval, av_, at_, ah_, ac_, aq_, V.cl]) (by simp only [go_sem, seval, av_, at_, ah_, ac_, aq_, V.cl]) (by simp only [go_sem, seval, av_, at_, ah_, ac_, aq_, bj_, sw, swM, rnB] <;> rfl) (by simp only [go_sem, seval, av_, at_, ah_, ac_, aq_, bj_, sw, swM, rnB] <;> rfl) (by simp only [go_sem, seval, av_, at_, ah_, ac_, aq_, bj_, sw, swM, rnB] <;> rfl)) ?_
    exact Can.weak (Weak.lit (by simp only [go_sem, seval, av_, at_, ah_, ac_, aq_, as_, leV, ap_, ar_, V.inn, us, T9_, Ta_] <;> (simp only [T3_] at h20; first | (rw [gi_ (by omega) (by omega), if_pos (by simpa using h28)]; simp; done) | (rw [gi_ (by omega) (by omega), if_neg (by simpa using h28)]; simp; done))) (by simp only [go_sem, seval, av_, at_, ah_, ac_, aq_, as_, leV, ap_, ar_, V.inn, us, T9_, Ta_]) (by simp only [go_sem, seval, av_, at_, ah_, ac_, aq_, as_, leV, ap_, ar_, V.inn, us, T9_, Ta_] <;> (simp only [T3_] at h20; first | (rw [gi_ (by omega) (by omega), if_pos (by simpa using h28)]; simp [sgR, sgC, T0k]; done) | (rw [gi_ (by omega) (by omega), if_neg (by simpa using h28)]; simp; done))))
   ·refine .skip ?_
    refine Exists.intro (()) ⟨?_, ?_⟩
    ·trivial
    exact Can.weak (Weak.lit (by simp only [go_sem, seval, av_, at_, ah_, ac_, aq_, as_, leV, ap_, ar_, V.inn, us, T9_, Ta_] <;> (simp only [T3_] at h20; first | (rw [gi_ (by omega) (by omega), if_pos (by simpa using h28)]; simp; done) | (rw [gi_ (by omega) (by omega), if_neg (by simpa using h28)]; simp; done))) (by simp only [go_sem, seval, av_, at_, ah_, ac_, aq_, as_, leV, ap_, ar_, V.inn, us, T9_, Ta_]) (by simp only [go_sem, seval, av_, at_, ah_, ac_, aq_, as_, leV, ap_, ar_, V.inn, us, T9_, Ta_] <;> (simp only [T3_] at h20; first | (rw [gi_ (by omega) (by omega), if_pos (by simpa using h28)]; simp [sgR, sgC, T0k]; done) | (rw [gi_ (by omega) (by omega), if_neg (by simpa using h28)]; simp; done))))
  refine .rgn [] (by simp only [go_sem, seval, av_, at_, ah_, ac_, aq_]; rfl) ?_ ?_
  ·(first | trivial | (simp; done) | (simp only [T3_] at h20; have q := gg_ i ts fs k; simp [bz_, az_]; omega))
  refine Exists.intro (k + 1) ⟨?_, ?_, ?_⟩
  ·simp at h20; omega
  ·simp at h20; omega
  exact Can.weak (Weak.lit (by simp only [go_sem, seval, av_, at_, ah_, ac_, aq_, as_, leV, ap_, ar_, V.inn, us, T9_, Ta_] <;> (rw [bd_ (by simp at h20; omega) (by simp at h20; omega)]; simp)) (by simp only [go_sem, seval, av_, at_, ah_, ac_, aq_, as_, leV, ap_, ar_, V.inn, us, T9_, Ta_]) (by simp only [go_sem, seval, av_, at_, ah_, ac_, aq_, as_, leV, ap_, ar_, V.inn, us, T9_, Ta_]))
 ·refine .exit (.seq (.rgn [] (by simp only [go_sem, seval, av_, at_, ah_, ac_, aq_]; rfl) ?_ ?_))
  ·(first | trivial | (simp; done) | (simp only [T3_] at h20; have q := gg_ i ts fs k; simp [bz_, az_]; omega))
  refine .frz 20 (by simp only [go_sem, seval, av_, at_, ah_, ac_, aq_]; rfl) (by simp only [go_sem, seval, av_, at_, ah_, ac_, aq_]) (by simp only [go_sem, seval, av_, at_, ah_, ac_, aq_]; rfl) (by simp only [go_sem, seval, av_, at_, ah_, ac_, aq_]; rfl) ?_
  refine .ret ⟨.inr rfl, ?_⟩
  exact Out.plain (by simp only [Tryz.results59]; rfl) (by simp only [ay_, a6_, go_sem, seval, av_, at_, ah_, ac_, aq_] <;> (split <;> rfl)) (by simp only [a5_, go_sem, seval, av_, at_, ah_, ac_, aq_] <;> (simp only [T4_] at h20; rw [ah6_ (.inl (by omega))]; simp [T1_, az_, peel])) (by simp only [go_sem, seval, av_, at_, ah_, ac_, aq_])
end
section
set_option maxRecDepth 100000
set_option maxHeartbeats 4000000
end
end Go.Proofs.YtpikbndepapbhaaGreatDoor
