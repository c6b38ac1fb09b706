/- Whence the words of a program came, plainly. Conditions: none. -/
import Derived.Test.YtcigkafioinfoaaGreatDoorKy
import Derived.Test.YtcigkafioinfoaaGreatDoorKo
import Derived.Test.YtcigkafioinfoaaGreatDoorKn
import Derived.Test.YtcigkafioinfoaaGreatDoorKq
set_option linter.unusedVariables false
set_option linter.unusedSimpArgs false
namespace Go.Proofs.YtcigkafioinfoaaGreatDoor
section
abbrev Sg := Int × Int × Int × Int
def sgC (s : Sg) : List V := [.i .i64 s.1, .i .i64 s.2.1, .i .i64 s.2.2.1, .i .i64 s.2.2.2]
def sgR (l : List Sg) : List (List V) := l.map sgC
def G0 : Sg := (0, 0, 0, 0)
theorem ak_ (l : List Sg) : (sgR l).length = l.length := by simp [sgR]
theorem aj_ : ∀ l : List Sg, cj_ (sgR l) = true
 | [] => rfl
 | _ :: r => by show (cq_ [_, _, _, _] && cj_ (sgR r)) = true; rw [aj_ r]; rfl
theorem nz_ (a b : List Sg) : sgR (a ++ b) = sgR a ++ sgR b := by simp [sgR]
theorem n4_ {l : List Sg} {k : Nat} (h : k < l.length) : (sgR l).getD k [] = sgC (l.getD k G0) := by
 simp [sgR, T8_, T6_ h]
theorem cx_ (l : List Sg) : (∀ r, r ∈ sgR l → r.length = 4) = True := eq_true fun r hr => by obtain ⟨t, _, rfl⟩ := List.mem_map.1 hr; rfl
def T0k : Tk := ⟨0, [], 0⟩
def sg1 (line : Int) (x : Tk × Int) : Option Sg := if 0 ≤ x.2 then some (line, x.1.col, line, x.2) else none
def sgs (line : Int) (ts : List Tk) (fs : List Int) : List Sg := (ts.zip fs).filterMap (sg1 line)
def sgK (line : Int) (ts : List Tk) (fs : List Int) (k : Nat) : List Sg := ((ts.zip fs).take k).filterMap (sg1 line)
theorem qe_ (line : Int) (ts : List Tk) (fs : List Int) : sgK line ts fs 0 = [] := rfl
theorem f1_ {line : Int} {ts : List Tk} {fs : List Int} {k : Nat} (h1 : k < ts.length) (h2 : k < fs.length) : sgK line ts fs (k + 1) = sgK line ts fs k ++ (if 0 ≤ fs.getD k 0 then [(line, (ts.getD k T0k).col, line, fs.getD k 0)] else []) := by
 have hz : k < (ts.zip fs).length := by rw [List.length_zip]; omega
 unfold sgK
 rw [List.take_add_one, T6_ hz, List.filterMap_append]
 congr 1
 rw [List.getElem_zip, T8_, T6_ h2, T8_, T6_ h1]
 simp only [Option.toList, Option.getD_some, List.filterMap_cons, List.filterMap_nil, sg1]
 split <;> simp_all
theorem y6_ {line : Int} {ts : List Tk} {fs : List Int} {k : Nat} (h : ts.length ≤ k ∨ fs.length ≤ k) : sgK line ts fs k = sgs line ts fs := by
 unfold sgK sgs
 rw [T1_]
 rw [List.length_zip]; omega
theorem fw_ (line : Int) (ts : List Tk) (fs : List Int) (k : Nat) : (sgK line ts fs k).length ≤ k := by
 unfold sgK
 have := List.length_filterMap_le (sg1 line) ((ts.zip fs).take k)
 rw [List.length_take] at this; omega
theorem c2_ (line : Int) (ts : List Tk) (fs : List Int) : (sgs line ts fs).length ≤ fs.length := by
 unfold sgs
 have := List.length_filterMap_le (sg1 line) (ts.zip fs)
 rw [List.length_zip] at this; omega
def sgS (i : Nat) (s : Sl) : List Sg := sgs i ((b1_ (emT s)).getD []) (emF s)
def sgN (l : List Sl) : Nat → List Sg
 | 0 => []
 | k + 1 => sgN l k ++ sgS k (l.getD k S0)
def sgP (l : List Sl) : List Sg := if pok l then sgN l l.length else []
theorem agw_ {s : Sl} (h : sok s = true) : b1_ (emT s) = some (tf_ 0 (bw (bof s))) := by rw [sd_ h]; exact z8_ (tq_ h)
theorem afu_ (c : Int) (l : List Str) : (tf_ c l).length = l.length := by rw [← List.length_map (f := Tk.s), tx_]
theorem t4_ {s : Sl} (h : sok s = true) : (emF s).length = (bw (bof s)).length := by
 have q := gx_ (d3_ h)
 unfold emF; rw [if_pos h, ← sk_ (d3_ h), f6_]
 rw [← q.2, List.length_map]
theorem px_ {s : Sl} (h : sok s = true) : ((b1_ (emT s)).getD []).length = (emF s).length := by
 rw [agw_ h, Option.getD_some, afu_, t4_ h]
theorem p6_ {s : Sl} (h : sok s = true) : (emF s).length ≤ 76 := by
 rw [t4_ h]; exact (or_ (hh_ (d3_ h))).1
theorem ahr_ {i : Nat} {s : Sl} (h : sok s = true) : (sgS i s).length ≤ 76 := by
 have := c2_ i ((b1_ (emT s)).getD []) (emF s)
 have := p6_ h
 unfold sgS; omega
theorem y0_ {l : List Sl} (h : ∀ k, k < l.length → sok (l.getD k S0) = true) : ∀ k, k ≤ l.length → (sgN l k).length ≤ 76 * k
 | 0, _ => by simp [sgN]
 | k + 1, hk => by
  have h1 := y0_ h k (by omega)
  have h2 := ahr_ (i := k) (h k (by omega))
  rw [sgN, T2_]; omega
theorem t6_ {l : List Sl} (h : pok l = true) {k : Nat} (hk : k ≤ l.length) : (sgN l k).length ≤ 1216 := by
 have h0 := adm_ h
 have := y0_ h0.2.2 k hk
 omega
theorem akh_ (l : List Sl) : (sgP l).length ≤ 1216 := by
 unfold sgP; split
 ·rename_i h; exact t6_ h (Nat.le_refl _)
 ·simp
theorem xt_ : sok S0 = true := by decide
theorem emF_S0 : emF S0 = [] := List.eq_nil_of_length_eq_zero (by rw [t4_ xt_]; decide)
theorem aj2_ (i : Nat) : sgS i S0 = [] := by unfold sgS sgs; rw [emF_S0]; simp
end
section
set_option maxRecDepth 100000
set_option maxHeartbeats 4000000
theorem aa7_ (l : List Sg) (hl : l.length < 1099511627776) : ACall En 102 [.sl false (sgR l)] [] [.sl false (sgR l)] [] := by
 refine al_ (fn := Tryz.f102) [] Tryz.func102 rfl rfl (by simp) fun C => ?_
 rw [ay_]
 simp only [Tryz.ntmps102, T7_, List.length_nil, Nat.reduceAdd, Nat.reduceSub, List.replicate_succ, List.replicate_zero, List.cons_append, List.nil_append, bs_]
 refine .seq (.rgn [] (by simp only [go_sem, seval, aj_, ak_]; rfl) ?_ ?_)
 ·first | trivial | simp
 refine .seq (.rgn [] (by simp only [go_sem, seval, aj_, ak_]; rfl) ?_ ?_)
 ·first | trivial | simp
 refine .ret ⟨.inr rfl, ?_⟩
 exact Out.plainL (by simp only [Tryz.results102]; rfl) (by simp only [az_, bj_, go_sem, seval, aj_, ak_] <;> (split <;> rfl)) (by simp only [bg_, go_sem, seval, aj_, ak_] <;> (rw [T1_ (by rw [ak_]; exact Nat.le_refl _)]; exact ap_ _)) (by simp only [go_sem, seval, aj_, ak_])
theorem u2_ (i : Int) (t : Str) (fs : List Int) (ht : t.length ≤ 281474976710656) (hl : ((b1_ t).getD []).length ≤ fs.length) (hf : fs.length ≤ 1000000) : ACall En 101 [.i .i64 i, .s t, .sl false (inR fs)] [] [.sl false (sgR (sgs i ((b1_ t).getD []) fs))] [] := by
 have T := sg_ t ht
 generalize (b1_ t).getD [] = ts at *
 refine al_ (fn := Tryz.f101) [] Tryz.func101 rfl rfl (by simp) fun C => ?_
 rw [ay_]
 simp only [Tryz.ntmps101, T7_, List.length_nil, Nat.reduceAdd, Nat.reduceSub, List.replicate_succ, List.replicate_zero, List.cons_append, List.nil_append, bs_]
 refine .seq (.rgn [] (by simp only [go_sem, seval, as_, am_, ad_, aa_, aj_]; rfl) ?_ ?_)
 ·(first | trivial | (simp; done) | (simp only [T3_] at h20; have q := fw_ i ts fs k; simp [cb_, ak_]; omega))
 refine .seq (.rgn [a9_ T] (by simp only [go_sem, seval, as_, am_, ad_, aa_, aj_]; rfl) ?_ ?_)
 ·(first | trivial | (simp; done) | (simp only [T3_] at h20; have q := fw_ i ts fs k; simp [cb_, ak_]; omega))
 refine .seq (.rgn [] (by simp only [go_sem, seval, as_, am_, ad_, aa_, aj_]; rfl) ?_ ?_)
 ·(first | trivial | (simp; done) | (simp only [T3_] at h20; have q := fw_ i ts fs k; simp [cb_, ak_]; omega))
 refine .seq (.seq (.rgn [] (by simp only [go_sem, seval, as_, am_, ad_, aa_, aj_]; rfl) ?_ ?_))
 ·(first | trivial | (simp; done) | (simp only [T3_] at h20; have q := fw_ i ts fs k; simp [cb_, ak_]; omega))
 refine .block (.loopK (fun k : Nat => ⟨[.i .i64 i, .no, .sl false (inR fs), .no, .no, .no, .no, .no, .no, .ow 20 4 0 (sgK i ts fs k).length, .no, .no, .no, .no, .no, .no, .no, .sl false (tkR ts), .i .i64 ts.length, .i .i64 k, .no, .no, .no, .no, .no, .no, .no, .no, .no, .no, .no, .no, .no, .no, .no, .no, .no, .no, .no, .no, .no, .no, .no, .no, .no], a7_ [(20, ⟨98, 4, sgR (sgK i ts fs k)⟩)], us [20]⟩) (fun k : Nat => k ≤ ts.length) (fun k : Nat => ts.length - k) (0) ?_ ?_ (fun k hI => ?_))
 ·simp
 ·refine Can.trans (Can.ownSlot 9 20 98 4 (by simp only [go_sem, seval, as_, am_, ad_, aa_, aj_] <;> rfl) (by simp only [go_sem, seval, as_, am_, ad_, aa_, aj_]) (by simp only [go_sem, seval, as_, am_, ad_, aa_, aj_] <;> rfl)) ?_
  exact Can.weak (Weak.lit (by simp only [go_sem, seval, as_, am_, ad_, aa_, aj_, at_, leV, aq_, ar_, V.inn, us, T9_, Ta_] <;> (simp [qe_])) (by simp only [go_sem, seval, as_, am_, ad_, aa_, aj_, at_, leV, aq_, ar_, V.inn, us, T9_, Ta_]) (by simp only [go_sem, seval, as_, am_, ad_, aa_, aj_, at_, leV, aq_, ar_, V.inn, us, T9_, Ta_] <;> (simp [qe_, sgR])))
 refine .seq (.rgn [] (by simp only [go_sem, seval, as_, am_, ad_, aa_, aj_]; rfl) ?_ ?_)
 ·(first | trivial | (simp; done) | (simp only [T3_] at h20; have q := fw_ i ts fs k; simp [cb_, ak_]; omega))
 refine .seq (.condB (by simp only [go_sem, seval, as_, am_, ad_, aa_, aj_]; rfl) (by simp only [go_sem, seval, as_, am_, ad_, aa_, aj_]) (fun h20 => ?_) (fun h20 => ?_))
 ·refine .skip (.seqJ (fun u : Unit => ⟨[.i .i64 i, .no, .sl false (inR fs), .no, .no, .no, .no, .no, .no, .ow 20 4 0 (sgK i ts fs (k + 1)).length, .no, .no, .no, .no, .no, .no, .no, .sl false (tkR ts), .i .i64 ts.length, .i .i64 k, .no, .no, .no, .no, .no, .no, .no, .no, .no, .no, .no, .no, .no, .no, .no, .no, .no, .no, .no, .no, .no, .no, .no, .no, .no], a7_ [(20, ⟨98, 4, sgR (sgK i ts fs (k + 1))⟩)], us [20]⟩) (fun u : Unit => True) ?_ (fun u hJ => ?_))
  ·refine .block (.seq (.rgn [] (by simp only [go_sem, seval, as_, am_, ad_, aa_, aj_, n9_ (show k < ts.length by simpa using h20)]; rfl) ?_ ?_))
   ·(first | trivial | (simp; done) | (simp only [T3_] at h20; have q := fw_ i ts fs k; simp [cb_, ak_]; omega))
   refine .seq (.rgn [] (by simp only [go_sem, seval, as_, am_, ad_, aa_, aj_, dj_ (show k < fs.length by (have h' : k < ts.length := (by simpa using h20)); omega)]; rfl) ?_ ?_)
   ·(first | trivial | (simp; done) | (simp only [T3_] at h20; have q := fw_ i ts fs k; simp [cb_, ak_]; omega))
   refine .condB (by simp only [go_sem, seval, as_, am_, ad_, aa_, aj_]; rfl) (by simp only [go_sem, seval, as_, am_, ad_, aa_, aj_]) (fun h28 => ?_) (fun h28 => ?_)
   ·refine .rgnD [] enM (by simp only [go_sem, seval, as_, am_, ad_, aa_, aj_, dj_ (show k < fs.length by (have h' : k < ts.length := (by simpa using h20)); omega)]; rfl) (by rfl) ?_ ?_
    ·(first | trivial | (simp; done) | (simp only [T3_] at h20; have q := fw_ i ts fs k; simp [cb_, ak_]; omega))
    refine Exists.intro (()) ⟨?_, ?_⟩
    ·trivial
    refine Can.trans (Can.swap 52 20 (by decide) (by decide) (by decide) (by decide) (by simp only [go_sem, seval, as_, am_, ad_, aa_, aj_, V.cl]) (by simp only [go_sem, seval, as_, am_, ad_, aa_, aj_, V.cl]) (by simp only [go_sem, seval, as_, am_, ad_, aa_, aj_, by_, sw, swM, rnB] <;> rfl) (by simp only [go_sem, seval, as_, am_, ad_, aa_, aj_, by_, sw, swM, rnB] <;> rfl) (by simp only [go_sem, seval, as_, am_, ad_, aa_, aj_, by_, sw, swM, rnB] <;> rfl)) ?_
    exact Can.weak (Weak.lit (by simp only [go_sem, seval, as_, am_, ad_, aa_, aj_, at_, leV, aq_, ar_, V.inn, us, T9_, Ta_] <;> (simp only [T3_] at h20; first | (rw [f1_ (by omega) (by omega), if_pos (by simpa using h28)]; simp; done) | (rw [f1_ (by omega) (by omega), if_neg (by simpa using h28)]; simp; done))) (by simp only [go_sem, seval, as_, am_, ad_, aa_, aj_, at_, leV, aq_, ar_, V.inn, us, T9_, Ta_]) (by simp only [go_sem, seval, as_, am_, ad_, aa_, aj_, at_, leV, aq_, ar_, V.inn, us, T9_, Ta_] <;> (simp only [T3_] at h20; first | (rw [f1_ (by omega) (by omega), if_pos (by simpa using h28)]; simp [sgR, sgC, T0k]; done) | (rw [f1_ (by omega) (by omega), if_neg (by simpa using h28)]; simp; done))))
   ·refine .skip ?_
    refine Exists.intro (()) ⟨?_, ?_⟩
    ·trivial
    exact Can.weak (Weak.lit (by simp only [go_sem, seval, as_, am_, ad_, aa_, aj_, at_, leV, aq_, ar_, V.inn, us, T9_, Ta_] <;> (simp only [T3_] at h20; first | (rw [f1_ (by omega) (by omega), if_pos (by simpa using h28)]; simp; done) | (rw [f1_ (by omega) (by omega), if_neg (by simpa using h28)]; simp; done))) (by simp only [go_sem, seval, as_, am_, ad_, aa_, aj_, at_, leV, aq_, ar_, V.inn, us, T9_, Ta_]) (by simp only [go_sem, seval, as_, am_, ad_, aa_, aj_, at_, leV, aq_, ar_, V.inn, us, T9_, Ta_] <;> (simp only [T3_] at h20; first | (rw [f1_ (by omega) (by omega), if_pos (by simpa using h28)]; simp [sgR, sgC, T0k]; done) | (rw [f1_ (by omega) (by omega), if_neg (by simpa using h28)]; simp; done))))
  refine .rgn [] (by simp only [go_sem, seval, as_, am_, ad_, aa_, aj_]; rfl) ?_ ?_
  ·(first | trivial | (simp; done) | (simp only [T3_] at h20; have q := fw_ i ts fs k; simp [cb_, ak_]; omega))
  refine Exists.intro (k + 1) ⟨?_, ?_, ?_⟩
  ·simp at h20; omega
  ·simp at h20; omega
  exact Can.weak (Weak.lit (by simp only [go_sem, seval, as_, am_, ad_, aa_, aj_, at_, leV, aq_, ar_, V.inn, us, T9_, Ta_] <;> (rw [bp_ (by simp at h20; omega) (by simp at h20; omega)]; simp)) (by simp only [go_sem, seval, as_, am_, ad_, aa_, aj_, at_, leV, aq_, ar_, V.inn, us, T9_, Ta_]) (by simp only [go_sem, seval, as_, am_, ad_, aa_, aj_, at_, leV, aq_, ar_, V.inn, us, T9_, Ta_]))
 ·refine .exit (.seq (.rgn [] (by simp only [go_sem, seval, as_, am_, ad_, aa_, aj_]; rfl) ?_ ?_))
  ·(first | trivial | (simp; done) | (simp only [T3_] at h20; have q := fw_ i ts fs k; simp [cb_, ak_]; omega))
  refine .frz 20 (by simp only [go_sem, seval, as_, am_, ad_, aa_, aj_]; rfl) (by simp only [go_sem, seval, as_, am_, ad_, aa_, aj_]) (by simp only [go_sem, seval, as_, am_, ad_, aa_, aj_]; rfl) (by simp only [go_sem, seval, as_, am_, ad_, aa_, aj_]; rfl) ?_
  refine .ret ⟨.inr rfl, ?_⟩
  exact Out.plain (by simp only [Tryz.results101]; rfl) (by simp only [az_, bj_, go_sem, seval, as_, am_, ad_, aa_, aj_] <;> (split <;> rfl)) (by simp only [bg_, go_sem, seval, as_, am_, ad_, aa_, aj_] <;> (simp only [T4_] at h20; rw [y6_ (.inl (by omega))]; simp [T1_, ak_, peel])) (by simp only [go_sem, seval, as_, am_, ad_, aa_, aj_])
end
section
set_option maxRecDepth 100000
set_option maxHeartbeats 4000000
end
end Go.Proofs.YtcigkafioinfoaaGreatDoor
