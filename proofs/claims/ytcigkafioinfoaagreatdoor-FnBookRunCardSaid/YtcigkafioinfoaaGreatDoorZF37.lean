/- The law FnBookRun: what it answers. Conditions: none. -/
import Derived.Test.YtcigkafioinfoaaGreatDoorK16
import Derived.Test.YtcigkafioinfoaaGreatDoorK15
import Derived.Test.YtcigkafioinfoaaGreatDoorZF11
set_option linter.unusedVariables false
set_option linter.unusedSimpArgs false
namespace Go.Proofs.YtcigkafioinfoaaGreatDoor
set_option maxRecDepth 100000
set_option maxHeartbeats 8000000
theorem aa8_ (l : List Pg) : vz_ (dq_ l) = true := by
 have := wb_ (l.map (·.line))
 unfold dq_
 rw [List.map_map] at this
 exact this
theorem wv_ {l : List Pg} {k : Nat} (h : k < l.length) : sR ((dq_ l).take (k + 1)) = sR ((dq_ l).take k) ++ [sC (md_ (l.getD k Pg0).line)] := by
 have e : (dq_ l).take (k + 1) = (dq_ l).take k ++ [(dq_ l).getD k S0] := by
  rw [List.take_add_one, T6_ (by rw [im_]; exact h), T8_, T6_ (by rw [im_]; exact h)]; rfl
 rw [e, xz_ h, ali_]; rfl
theorem aex_ {w : Str} (h : (cw_ w).isSome = false) : ([.i .i64 0, .s [], .s [], .i .i64 0, .i .i64 0, .s [], .sl false [], .i .i64 0, .i .i64 0, .s [], .sl false []] : List V) = sC (md_ w) := by
 have e : md_ w = S0 := by
  unfold md_
  cases hx : cw_ w with
  | none => rfl
  | some x => rw [hx] at h; cases h
 rw [e, ag_]; simp [S0, E0, E.kind, E.n, E.s, E.kids, eR]
theorem t6_ (c : Str) : ACall En 3 [.sl false (byR c)] [] [.b true] [] := by
 have DA := p6_ c
 have hB := ang_ (c.take 2000) 0
 have hn := aif_ (c.take 2000) 0
 generalize (dBk (c.take 2000) 0).1 = l at *
 have e1 : e6_ l = true → mu_ (io_ l) = i0_ (dq_ l) := fun h => by rw [ac9_ h]; exact v9_ (agj_ h)
 have hq := aev_ (dq_ l)
 have sm := aa8_ l
 have hx := ab2_ l
 have hl := im_ l
 have R := fun k (h : k < l.length) => nk_ (l.getD k Pg0).line (by have := (hB _ (bp_ (d := Pg0) h)).1; omega)
 generalize hgp : i0_ (dq_ l) = q at *
 refine aj_ (fn := Tryz.f3) [] Tryz.func3 rfl rfl (by simp) fun C => ?_
 rw [ay_]
 simp only [Tryz.ntmps3, T7_, List.length_nil, Nat.reduceAdd, Nat.reduceSub, List.replicate_succ, List.replicate_zero, List.cons_append, List.nil_append, bu_]
 refine .seq (.rgn [] (by simp only [go_sem, seval, al_, ah_, am_, au_, a3_, ae_, ac_, ag_]; rfl) ?_ ?_)
 ·(first | trivial | (simp; done) | (simp only [T3_] at h80; and_intros <;> omega))
 refine .seq (.seq (.rgn [] (by simp only [go_sem, seval, al_, ah_, am_, au_, a3_, ae_, ac_, ag_]; rfl) ?_ ?_))
 ·(first | trivial | (simp; done) | (simp only [T3_] at h80; and_intros <;> omega))
 refine .condB (by simp only [go_sem, seval, al_, ah_, am_, au_, a3_, ae_, ac_, ag_]; rfl) (by simp only [go_sem, seval, al_, ah_, am_, au_, a3_, ae_, ac_, ag_]) (fun h16 => ?_) (fun h16 => ?_)
 ·refine .seq (.rgn [] (by simp only [go_sem, seval, al_, ah_, am_, au_, a3_, ae_, ac_, ag_]; rfl) ?_ ?_)
  ·(first | trivial | (simp; done) | (simp only [T3_] at h80; and_intros <;> omega))
  refine .ret ⟨.inr rfl, ?_⟩
  exact Out.plain (by simp only [Tryz.results3]; rfl) (by simp only [az_, bc_, go_sem, seval, al_, ah_, am_, au_, a3_, ae_, ac_, ag_] <;> (split <;> rfl)) (by simp only [bb_, go_sem, seval, al_, ah_, am_, au_, a3_, ae_, ac_, ag_] <;> (rfl)) (by simp only [go_sem, seval, al_, ah_, am_, au_, a3_, ae_, ac_, ag_])
 ·refine .skip (.seq (.rgn [a8_ DA] (by simp only [go_sem, seval, al_, ah_, am_, au_, a3_, ae_, ac_, ag_]; rfl) ?_ ?_))
  ·(first | trivial | (simp; done) | (simp only [T3_] at h80; and_intros <;> omega))
  refine .seq (.rgn [a8_ (up_ l hB (by omega))] (by simp only [go_sem, seval, al_, ah_, am_, au_, a3_, ae_, ac_, ag_]; rfl) ?_ ?_)
  ·(first | trivial | (simp; done) | (simp only [T3_] at h80; and_intros <;> omega))
  refine .seq (.seq (.rgn [a8_ (nh_ l hB (by omega)), a8_ (q7_ l hB (by omega))] (by simp only [go_sem, seval, al_, ah_, am_, au_, a3_, ae_, ac_, ag_]; rfl) ?_ ?_))
  ·(first | trivial | (simp; done) | (simp only [T3_] at h80; and_intros <;> omega))
  refine .condB (by simp only [go_sem, seval, al_, ah_, am_, au_, a3_, ae_, ac_, ag_]; rfl) (by simp only [go_sem, seval, al_, ah_, am_, au_, a3_, ae_, ac_, ag_]) (fun h29 => ?_) (fun h29 => ?_)
  ·refine .seq (.rgn [a8_ (nh_ l hB (by omega))] (by simp only [go_sem, seval, al_, ah_, am_, au_, a3_, ae_, ac_, ag_]; rfl) ?_ ?_)
   ·(first | trivial | (simp; done) | (simp only [T3_] at h80; and_intros <;> omega))
   refine .ret ⟨.inr rfl, ?_⟩
   exact Out.plain (by simp only [Tryz.results3]; rfl) (by simp only [az_, bc_, go_sem, seval, al_, ah_, am_, au_, a3_, ae_, ac_, ag_] <;> (split <;> rfl)) (by simp only [bb_, go_sem, seval, al_, ah_, am_, au_, a3_, ae_, ac_, ag_] <;> (rfl)) (by simp only [go_sem, seval, al_, ah_, am_, au_, a3_, ae_, ac_, ag_])
  ·refine .skip (.seq (.rgn [ce_ (e6_ l = true) (fun h => e1 h ▸ za_ (io_ l) (by omega))] (by simp only [go_sem, seval, al_, ah_, am_, au_, a3_, ae_, ac_, ag_]; rfl) ?_ ?_))
   ·simpa using h29
   refine .seq (.rgn [] (by simp only [go_sem, seval, al_, ah_, am_, au_, a3_, ae_, ac_, ag_]; rfl) ?_ ?_)
   ·(first | trivial | (simp; done) | (simp only [T3_] at h80; and_intros <;> omega))
   refine .seqJ (fun u : Unit => ⟨[.no, .no, .no, .no, .no, .sl false (inR q.1), .b q.2, .sl false (sR (dq_ l)), .no, .no, .no, .no, .no, .no, .no, .no, .no, .no, .no, .no, .no, .no, .no, .no, .no, .no, .no, .no, .no, .no, .no, .no, .no, .no, .no, .no, .no, .no, .no, .no, .no, .no, .no, .no, .no, .no, .no, .no, .no, .no, .no, .no, .no, .no, .no, .no, .no, .no, .no, .no, .no, .no, .no, .no, .no, .no, .no, .no, .no, .no, .no, .no, .no, .no, .no, .no, .no, .no, .no, .no, .no, .no, .no, .no, .no, .no, .no, .no, .no, .no, .no, .no], bh_ [], us []⟩) (fun u : Unit => e6_ l = true) ?_ (fun u hJ => ?_)
   ·refine .seq (.rgn [] (by simp only [go_sem, seval, al_, ah_, am_, au_, a3_, ae_, ac_, ag_]; rfl) ?_ ?_)
    ·(first | trivial | (simp; done) | (simp only [T3_] at h80; and_intros <;> omega))
    refine .block (.loopK (fun k : Nat => ⟨[.no, .no, .no, .sl false (pgR l), .no, .sl false (inR q.1), .b q.2, .ow 60 11 0 k, .i .i64 k, .no, .no, .no, .no, .no, .no, .no, .no, .no, .no, .no, .no, .no, .no, .no, .no, .no, .no, .no, .no, .no, .no, .no, .no, .no, .no, .no, .no, .no, .no, .no, .no, .no, .no, .no, .no, .no, .no, .no, .no, .no, .no, .no, .no, .no, .no, .no, .no, .no, .no, .no, .no, .no, .no, .no, .no, .no, .no, .no, .no, .no, .no, .no, .no, .no, .no, .no, .no, .no, .no, .no, .no, .no, .no, .no, .no, .no, .no, .no, .no, .no, .no, .no], bh_ [(60, ⟨35, 11, sR ((dq_ l).take k)⟩)], us [60]⟩) (fun k : Nat => k ≤ l.length ∧ e6_ l = true) (fun k : Nat => l.length - k) (0) ?_ ?_ (fun k hI => ?_))
    ·exact ⟨Nat.zero_le _, by simpa using h29⟩
    ·refine Can.trans (Can.ownSlot 7 60 35 11 (by simp only [go_sem, seval, al_, ah_, am_, au_, a3_, ae_, ac_, ag_] <;> rfl) (by simp only [go_sem, seval, al_, ah_, am_, au_, a3_, ae_, ac_, ag_]) (by simp only [go_sem, seval, al_, ah_, am_, au_, a3_, ae_, ac_, ag_] <;> rfl)) ?_
     exact Can.weak (Weak.lit (by simp only [go_sem, seval, al_, ah_, am_, au_, a3_, ae_, ac_, ag_, ar_, leV, ap_, aq_, V.inn, us, T9_, Ta_] <;> ((try simp))) (by simp only [go_sem, seval, al_, ah_, am_, au_, a3_, ae_, ac_, ag_, ar_, leV, ap_, aq_, V.inn, us, T9_, Ta_]) (by simp only [go_sem, seval, al_, ah_, am_, au_, a3_, ae_, ac_, ag_, ar_, leV, ap_, aq_, V.inn, us, T9_, Ta_] <;> (simp [sR])))
    refine .seq (.seq (.rgn [] (by simp only [go_sem, seval, al_, ah_, am_, au_, a3_, ae_, ac_, ag_]; rfl) ?_ ?_))
    ·(first | trivial | (simp; done) | (simp only [T3_] at h80; and_intros <;> omega))
    refine .condB (by simp only [go_sem, seval, al_, ah_, am_, au_, a3_, ae_, ac_, ag_]; rfl) (by simp only [go_sem, seval, al_, ah_, am_, au_, a3_, ae_, ac_, ag_]) (fun h43 => ?_) (fun h43 => ?_)
    ·refine .skip (.seq (.block (.seq (.rgn [ce_ (k < l.length) (fun h => R k h)] (by simp only [go_sem, seval, al_, ah_, am_, au_, a3_, ae_, ac_, ag_, hm_ (show k < l.length by simpa using h43)]; rfl) ?_ ?_))))
     ·simp only [T3_] at h43; and_intros <;> omega
     refine .seqJ (fun u : Unit => ⟨[.no, .no, .no, .sl false (pgR l), .no, .sl false (inR q.1), .b q.2, .ow 60 11 0 k, .i .i64 k, .pt 19 11 0 0, .no, .no, .no, .no, .no, .no, .no, .no, .no, .no, .no, .no, .no, .no, .no, .no, .no, .no, .no, .no, .no, .no, .no, .no, .no, .no, .no, .no, .no, .no, .no, .no, .no, .no, .no, .no, .no, .no, .no, .no, .no, .no, .no, .no, .no, .no, .no, .no, .no, .no, .no, .no, .no, .no, .no, .no, .no, .no, .no, .no, .no, .no, .no, .no, .no, .no, .no, .no, .no, .no, .no, .no, .no, .no, .no, .no, .no, .no, .no, .no, .no, .no], bh_ [(60, ⟨35, 11, sR ((dq_ l).take k)⟩), (19, ⟨35, 11, [sC (md_ (l.getD k Pg0).line)]⟩)], us [60, 19]⟩) (fun u : Unit => k < l.length ∧ e6_ l = true) ?_ (fun u hJ => ?_)
     ·refine .seq (.rgn [] (by simp only [go_sem, seval, al_, ah_, am_, au_, a3_, ae_, ac_, ag_]; rfl) ?_ ?_)
      ·(first | trivial | (simp; done) | (simp only [T3_] at h80; and_intros <;> omega))
      refine .condB (by simp only [go_sem, seval, al_, ah_, am_, au_, a3_, ae_, ac_, ag_]; rfl) (by simp only [go_sem, seval, al_, ah_, am_, au_, a3_, ae_, ac_, ag_]) (fun h56 => ?_) (fun h56 => ?_)
      ·refine .rgn [] (by simp only [go_sem, seval, al_, ah_, am_, au_, a3_, ae_, ac_, ag_]; rfl) ?_ ?_
       ·(first | trivial | (simp; done) | (simp only [T3_] at h80; and_intros <;> omega))
       refine Exists.intro (()) ⟨?_, ?_⟩
       ·exact ⟨by simpa using h43, hI.2⟩
       refine Can.trans (Can.leAt 19 ([[.i .i64 0, .s [], .s [], .i .i64 0, .i .i64 0, .s [], .sl false [], .i .i64 0, .i .i64 0, .s [], .sl false []]]) (by simp only [go_sem, seval, al_, ah_, am_, au_, a3_, ae_, ac_, ag_] <;> rfl) (by simp only [go_sem, seval, al_, ah_, am_, au_, a3_, ae_, ac_, ag_, ler, les, leV] <;> (first | trivial | simp)) (by simp only [go_sem, seval, al_, ah_, am_, au_, a3_, ae_, ac_, ag_] <;> rfl)) ?_
       exact Can.weak (Weak.lit (by simp only [go_sem, seval, al_, ah_, am_, au_, a3_, ae_, ac_, ag_, ar_, leV, ap_, aq_, V.inn, us, T9_, Ta_]) (by simp only [go_sem, seval, al_, ah_, am_, au_, a3_, ae_, ac_, ag_, ar_, leV, ap_, aq_, V.inn, us, T9_, Ta_]) (by simp only [go_sem, seval, al_, ah_, am_, au_, a3_, ae_, ac_, ag_, ar_, leV, ap_, aq_, V.inn, us, T9_, Ta_] <;> (first | (have e := aex_ (show (cw_ (l.getD k Pg0).line).isSome = false by simpa using h56); rw [ag_] at e; rw [e]; done) | rfl)))
      ·refine .skip ?_
       refine Exists.intro (()) ⟨?_, ?_⟩
       ·exact ⟨by simpa using h43, hI.2⟩
       exact Can.weak (Weak.lit (by simp only [go_sem, seval, al_, ah_, am_, au_, a3_, ae_, ac_, ag_, ar_, leV, ap_, aq_, V.inn, us, T9_, Ta_]) (by simp only [go_sem, seval, al_, ah_, am_, au_, a3_, ae_, ac_, ag_, ar_, leV, ap_, aq_, V.inn, us, T9_, Ta_]) (by simp only [go_sem, seval, al_, ah_, am_, au_, a3_, ae_, ac_, ag_, ar_, leV, ap_, aq_, V.inn, us, T9_, Ta_] <;> (first | (have e := aex_ (show (cw_ (l.getD k Pg0).line).isSome = false by simpa using h56); rw [ag_] at e; rw [e]; done) | rfl)))
     refine .rgn [] (by simp only [go_sem, seval, al_, ah_, am_, au_, a3_, ae_, ac_, ag_]; rfl) ?_ ?_
     ·have h43' := hJ.1; exact ⟨fun r hr => by simp at hr; subst hr; rfl, by simp, by rw [List.length_take, hl]; omega, by omega⟩
     refine .rgn [] (by simp only [go_sem, seval, al_, ah_, am_, au_, a3_, ae_, ac_, ag_]; rfl) ?_ ?_
     ·(first | trivial | (simp; done) | (simp only [T3_] at h80; and_intros <;> omega))
     refine Exists.intro (k + 1) ⟨?_, ?_, ?_⟩
     ·exact ⟨by have := hJ.1; omega, hJ.2⟩
     ·have := hJ.1; omega
     refine Can.trans (Can.swap 71 60 (by decide) (by decide) (by decide) (by decide) (by simp only [go_sem, seval, al_, ah_, am_, au_, a3_, ae_, ac_, ag_, V.cl]) (by simp only [go_sem, seval, al_, ah_, am_, au_, a3_, ae_, ac_, ag_, V.cl]) (by simp only [go_sem, seval, al_, ah_, am_, au_, a3_, ae_, ac_, ag_, bj_, sw, swM, rnB] <;> rfl) (by simp only [go_sem, seval, al_, ah_, am_, au_, a3_, ae_, ac_, ag_, bj_, sw, swM, rnB] <;> rfl) (by simp only [go_sem, seval, al_, ah_, am_, au_, a3_, ae_, ac_, ag_, bj_, sw, swM, rnB] <;> rfl)) ?_
     exact Can.weak (Weak.lit (by simp only [go_sem, seval, al_, ah_, am_, au_, a3_, ae_, ac_, ag_, ar_, leV, ap_, aq_, V.inn, us, T9_, Ta_] <;> (rw [bi_ (by omega) (by omega)]; first | rfl | omega)) (by simp only [go_sem, seval, al_, ah_, am_, au_, a3_, ae_, ac_, ag_, ar_, leV, ap_, aq_, V.inn, us, T9_, Ta_]) (by simp only [go_sem, seval, al_, ah_, am_, au_, a3_, ae_, ac_, ag_, ar_, leV, ap_, aq_, V.inn, us, T9_, Ta_] <;> (rw [wv_ hJ.1, ag_])))
    ·refine .exit ?_
     refine Exists.intro (()) ⟨?_, ?_⟩
     ·exact hI.2
     refine Can.trans (Can.frz 60 (by simp only [go_sem, seval, al_, ah_, am_, au_, a3_, ae_, ac_, ag_] <;> rfl) (by simp only [go_sem, seval, al_, ah_, am_, au_, a3_, ae_, ac_, ag_]) (by simp only [go_sem, seval, al_, ah_, am_, au_, a3_, ae_, ac_, ag_] <;> rfl) (by simp only [go_sem, seval, al_, ah_, am_, au_, a3_, ae_, ac_, ag_] <;> rfl)) ?_
     exact Can.weak (Weak.lit (by simp only [go_sem, seval, al_, ah_, am_, au_, a3_, ae_, ac_, ag_, ar_, leV, ap_, aq_, V.inn, us, T9_, Ta_] <;> (simp at h43; (obtain rfl : k = l.length := (by omega)); rw [← hl]; simp [T1_, a3_, leV, be_, frz])) (by simp only [go_sem, seval, al_, ah_, am_, au_, a3_, ae_, ac_, ag_, ar_, leV, ap_, aq_, V.inn, us, T9_, Ta_]) (by simp only [go_sem, seval, al_, ah_, am_, au_, a3_, ae_, ac_, ag_, ar_, leV, ap_, aq_, V.inn, us, T9_, Ta_]))
   refine .seq (.rgn [ce_ (e6_ l = true) (fun _ => hgp ▸ yi_ (dq_ l) sm (by omega))] (by simp only [go_sem, seval, al_, ah_, am_, au_, a3_, ae_, ac_, ag_]; rfl) ?_ ?_)
   ·exact hJ
   refine .seq (.seq (.rgn [] (by simp only [go_sem, seval, al_, ah_, am_, au_, a3_, ae_, ac_, ag_]; rfl) ?_ ?_))
   ·(first | trivial | (simp; done) | (simp only [T3_] at h80; and_intros <;> omega))
   refine .condB (by simp only [go_sem, seval, al_, ah_, am_, au_, a3_, ae_, ac_, ag_]; rfl) (by simp only [go_sem, seval, al_, ah_, am_, au_, a3_, ae_, ac_, ag_]) (fun h76 => ?_) (fun h76 => ?_)
   ·simp at h76
   ·refine .skip (.seq (.seq (.rgn [] (by simp only [go_sem, seval, al_, ah_, am_, au_, a3_, ae_, ac_, ag_]; rfl) ?_ ?_)))
    ·(first | trivial | (simp; done) | (simp only [T3_] at h80; and_intros <;> omega))
    refine .block (.loopK (fun j : Nat => ⟨[.no, .no, .no, .no, .no, .sl false (inR q.1), .no, .no, .no, .no, .no, .sl false (inR q.1), .no, .i .i64 j, .no, .no, .no, .no, .no, .no, .no, .no, .no, .no, .no, .no, .no, .no, .no, .no, .no, .no, .no, .no, .no, .no, .no, .no, .no, .no, .no, .no, .no, .no, .no, .no, .no, .no, .no, .no, .no, .no, .no, .no, .no, .no, .no, .no, .no, .no, .no, .no, .no, .no, .no, .no, .no, .no, .no, .no, .no, .no, .no, .no, .no, .no, .no, .no, .no, .no, .no, .no, .no, .no, .no, .no, .no, .no, .no, .no, .no, .no], bh_ [], us []⟩) (fun j : Nat => j ≤ q.1.length) (fun j : Nat => q.1.length - j) (0) ?_ ?_ (fun j hI => ?_))
    ·simp
    ·exact Can.weak (Weak.lit (by simp only [go_sem, seval, al_, ah_, am_, au_, a3_, ae_, ac_, ag_, ar_, leV, ap_, aq_, V.inn, us, T9_, Ta_] <;> ((try simp))) (by simp only [go_sem, seval, al_, ah_, am_, au_, a3_, ae_, ac_, ag_, ar_, leV, ap_, aq_, V.inn, us, T9_, Ta_]) (by simp only [go_sem, seval, al_, ah_, am_, au_, a3_, ae_, ac_, ag_, ar_, leV, ap_, aq_, V.inn, us, T9_, Ta_]))
    refine .seq (.seq (.rgn [] (by simp only [go_sem, seval, al_, ah_, am_, au_, a3_, ae_, ac_, ag_]; rfl) ?_ ?_))
    ·(first | trivial | (simp; done) | (simp only [T3_] at h80; and_intros <;> omega))
    refine .condB (by simp only [go_sem, seval, al_, ah_, am_, au_, a3_, ae_, ac_, ag_]; rfl) (by simp only [go_sem, seval, al_, ah_, am_, au_, a3_, ae_, ac_, ag_]) (fun h80 => ?_) (fun h80 => ?_)
    ·refine .skip (.seq (.block (.seq (.rgnD [] enM (by simp only [go_sem, seval, al_, ah_, am_, au_, a3_, ae_, ac_, ag_, fj_ (show j < q.1.length by simpa using h80)]; rfl) (by rfl) ?_ ?_))))
     ·(first | trivial | (simp; done) | (simp only [T3_] at h80; and_intros <;> omega))
     refine .condB (by simp only [go_sem, seval, al_, ah_, am_, au_, a3_, ae_, ac_, ag_]; rfl) (by simp only [go_sem, seval, al_, ah_, am_, au_, a3_, ae_, ac_, ag_]) (fun h91 => ?_) (fun h91 => ?_)
     ·simp at h91
     ·refine .skip (.rgn [] (by simp only [go_sem, seval, al_, ah_, am_, au_, a3_, ae_, ac_, ag_]; rfl) ?_ ?_)
      ·(first | trivial | (simp; done) | (simp only [T3_] at h80; and_intros <;> omega))
      refine Exists.intro (j + 1) ⟨?_, ?_, ?_⟩
      ·simp at h80; omega
      ·simp at h80; omega
      exact Can.weak (Weak.lit (by simp only [go_sem, seval, al_, ah_, am_, au_, a3_, ae_, ac_, ag_, ar_, leV, ap_, aq_, V.inn, us, T9_, Ta_] <;> (rw [bi_ (by omega) (by omega)]; (try simp))) (by simp only [go_sem, seval, al_, ah_, am_, au_, a3_, ae_, ac_, ag_, ar_, leV, ap_, aq_, V.inn, us, T9_, Ta_]) (by simp only [go_sem, seval, al_, ah_, am_, au_, a3_, ae_, ac_, ag_, ar_, leV, ap_, aq_, V.inn, us, T9_, Ta_]))
    ·refine .exit (.seq (.rgn [] (by simp only [go_sem, seval, al_, ah_, am_, au_, a3_, ae_, ac_, ag_]; rfl) ?_ ?_))
     ·(first | trivial | (simp; done) | (simp only [T3_] at h80; and_intros <;> omega))
     refine .ret ⟨.inr rfl, ?_⟩
     exact Out.plain (by simp only [Tryz.results3]; rfl) (by simp only [az_, bc_, go_sem, seval, al_, ah_, am_, au_, a3_, ae_, ac_, ag_] <;> (split <;> rfl)) (by simp only [bb_, go_sem, seval, al_, ah_, am_, au_, a3_, ae_, ac_, ag_] <;> (rfl)) (by simp only [go_sem, seval, al_, ah_, am_, au_, a3_, ae_, ac_, ag_])
end Go.Proofs.YtcigkafioinfoaaGreatDoor
