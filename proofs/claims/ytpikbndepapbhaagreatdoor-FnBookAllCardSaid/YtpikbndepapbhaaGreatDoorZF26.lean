/- The law FnBookAll: what it answers. Conditions: none. -/
import Derived.Test.YtpikbndepapbhaaGreatDoorK13
import Derived.Test.YtpikbndepapbhaaGreatDoorK14
import Derived.Test.YtpikbndepapbhaaGreatDoorK15
import Derived.Test.YtpikbndepapbhaaGreatDoorK4
import Derived.Test.YtpikbndepapbhaaGreatDoorK10
set_option linter.unusedVariables false
set_option linter.unusedSimpArgs false
namespace Go.Proofs.YtpikbndepapbhaaGreatDoor
set_option maxRecDepth 100000
set_option maxHeartbeats 4000000
theorem sw_ (c : Str) : ACall En 3 [.sl false (byR c)] [] [.b true] [] := by
 have DA := se_ c
 have hx := ag2_ (c.take 2000) (p := 0) (by decide) (by decide)
 generalize (dTx (c.take 2000) 0).1 = s at *
 have hB := ake_ s
 have hn := ad6_ s
 have W := ab5_ (do_ s) (do_ s) (by omega) (by omega) (fun p hp => by have := (hB p hp).2.2; omega)
 have f1 := @aau_ s
 have f2 := @aip_ s
 have f3 := @kt_ s
 have f4 := fun h => ab1_ (@kt_ s h)
 have f5 := fun h => wd_ (@kt_ s h)
 have f6 := @qz_ s
 have hL : prL s = if prR s then (cb_ s).map gi_ else [] := rfl
 have hm : t0_ (prL s) = true := by rw [hL]; split; exact m2_ _; rfl
 have hl : (prL s).length ≤ 5000 := by have := is_ s; rw [hL]; split <;> simp; omega
 have g1 := abb_ (do_ s)
 have g2 := ae4_ (prL s)
 have g3 := aff_ (do_ s)
 refine aj_ (fn := Tryz.f3) [] Tryz.func3 rfl rfl (by simp) fun C => ?_
 rw [a0_]
 simp only [Tryz.ntmps3, T7_, List.length_nil, Nat.reduceAdd, Nat.reduceSub, List.replicate_succ, List.replicate_zero, List.cons_append, List.nil_append, bq_]
 refine .seq (.rgn [] (by simp only [go_sem, seval, ag_, am_, ac_, ai_, aq_, a2_, az_]; rfl) ?_ ?_)
 ·first | trivial | simp
 refine .seq (.seq (.rgn [] (by simp only [go_sem, seval, ag_, am_, ac_, ai_, aq_, a2_, az_]; rfl) ?_ ?_))
 ·first | trivial | simp
 refine .condB (by simp only [go_sem, seval, ag_, am_, ac_, ai_, aq_, a2_, az_]; rfl) (by simp only [go_sem, seval, ag_, am_, ac_, ai_, aq_, a2_, az_]) (fun h11 => ?_) (fun h11 => ?_)
 ·refine .seq (.rgn [] (by simp only [go_sem, seval, ag_, am_, ac_, ai_, aq_, a2_, az_]; rfl) ?_ ?_)
  ·first | trivial | simp
  refine .ret ⟨.inr rfl, ?_⟩
  exact Out.plain (by simp only [Tryz.results3]; rfl) (by simp only [a1_, a9_, go_sem, seval, ag_, am_, ac_, ai_, aq_, a2_, az_] <;> (split <;> rfl)) (by simp only [a8_, go_sem, seval, ag_, am_, ac_, ai_, aq_, a2_, az_] <;> (rfl)) (by simp only [go_sem, seval, ag_, am_, ac_, ai_, aq_, a2_, az_])
 ·refine .skip (.seq (.rgn [a5_ DA] (by simp only [go_sem, seval, ag_, am_, ac_, ai_, aq_, a2_, az_]; rfl) ?_ ?_))
  ·first | trivial | simp
  refine .seq (.rgn [a5_ (aaz_ s (by omega))] (by simp only [go_sem, seval, ag_, am_, ac_, ai_, aq_, a2_, az_]; rfl) ?_ ?_)
  ·first | trivial | simp
  refine .seq (.rgn [a5_ (abo_ s (by omega))] (by simp only [go_sem, seval, ag_, am_, ac_, ai_, aq_, a2_, az_]; rfl) ?_ ?_)
  ·first | trivial | simp
  refine .seq (.seq (.rgn [a5_ W] (by simp only [go_sem, seval, ag_, am_, ac_, ai_, aq_, a2_, az_]; rfl) ?_ ?_))
  ·first | trivial | simp
  refine .condB (by simp only [go_sem, seval, ag_, am_, ac_, ai_, aq_, a2_, az_]; rfl) (by simp only [go_sem, seval, ag_, am_, ac_, ai_, aq_, a2_, az_]) (fun h21 => ?_) (fun h21 => ?_)
  ·simp at h21
  ·refine .skip (.seq (.seq (.rgn [] (by simp only [go_sem, seval, ag_, am_, ac_, ai_, aq_, a2_, az_]; rfl) ?_ ?_)))
   ·first | trivial | simp
   refine .condB (by simp only [go_sem, seval, ag_, am_, ac_, ai_, aq_, a2_, az_]; rfl) (by simp only [go_sem, seval, ag_, am_, ac_, ai_, aq_, a2_, az_]) (fun h24 => ?_) (fun h24 => ?_)
   ·refine .seq (.rgn [] (by simp only [go_sem, seval, ag_, am_, ac_, ai_, aq_, a2_, az_]; rfl) ?_ ?_)
    ·first | trivial | simp
    refine .ret ⟨.inr rfl, ?_⟩
    exact Out.plain (by simp only [Tryz.results3]; rfl) (by simp only [a1_, a9_, go_sem, seval, ag_, am_, ac_, ai_, aq_, a2_, az_] <;> (split <;> rfl)) (by simp only [a8_, go_sem, seval, ag_, am_, ac_, ai_, aq_, a2_, az_] <;> (rfl)) (by simp only [go_sem, seval, ag_, am_, ac_, ai_, aq_, a2_, az_])
   ·refine .skip (.seq (.rgn [a5_ (tw_ s (by omega))] (by simp only [go_sem, seval, ag_, am_, ac_, ai_, aq_, a2_, az_]; rfl) ?_ ?_))
    ·first | trivial | simp
    refine .seq (.rgn [a5_ (wy_ (do_ s) hB (by omega))] (by simp only [go_sem, seval, ag_, am_, ac_, ai_, aq_, a2_, az_]; rfl) ?_ ?_)
    ·first | trivial | simp
    refine .seq (.seq (.rgn [a5_ (t7_ (do_ s) hB (by omega)), a5_ (ji_ (do_ s) hB (by omega))] (by simp only [go_sem, seval, ag_, am_, ac_, ai_, aq_, a2_, az_]; rfl) ?_ ?_))
    ·first | trivial | simp
    refine .condB (by simp only [go_sem, seval, ag_, am_, ac_, ai_, aq_, a2_, az_]; rfl) (by simp only [go_sem, seval, ag_, am_, ac_, ai_, aq_, a2_, az_]) (fun h47 => ?_) (fun h47 => ?_)
    ·have hb : do_ s ≠ [] := (fun e => by rw [e] at h24; simp at h24); have e : prR s = (((mw_ (do_ s)).length : Int) == 0) := (by rw [Bool.eq_iff_iff, f2 hb, beq_iff_eq]; exact ⟨fun q => by rw [q]; rfl, fun q => List.eq_nil_of_length_eq_zero (by omega)⟩); rw [f1 hb, f3 hb, ← e] at h47; simp at h47
    ·refine .skip (.seq (.seq (.rgn [] (by simp only [go_sem, seval, ag_, am_, ac_, ai_, aq_, a2_, az_]; rfl) ?_ ?_)))
     ·first | trivial | simp
     refine .condB (by simp only [go_sem, seval, ag_, am_, ac_, ai_, aq_, a2_, az_]; rfl) (by simp only [go_sem, seval, ag_, am_, ac_, ai_, aq_, a2_, az_]) (fun h49 => ?_) (fun h49 => ?_)
     ·refine .seq (.rgn [] (by simp only [go_sem, seval, ag_, am_, ac_, ai_, aq_, a2_, az_]; rfl) ?_ ?_)
      ·first | trivial | simp
      refine .ret ⟨.inr rfl, ?_⟩
      exact Out.plain (by simp only [Tryz.results3]; rfl) (by simp only [a1_, a9_, go_sem, seval, ag_, am_, ac_, ai_, aq_, a2_, az_] <;> (split <;> rfl)) (by simp only [a8_, go_sem, seval, ag_, am_, ac_, ai_, aq_, a2_, az_] <;> (rfl)) (by simp only [go_sem, seval, ag_, am_, ac_, ai_, aq_, a2_, az_])
     ·refine .skip (.seq (.rgn [a5_ (v4_ (do_ s) hB (by omega)), a5_ (vs_ (prL s) hm (by omega)), a5_ (tv_ (do_ s) hB (by omega)), a5_ (vo_ (prL s) hm (by omega)), a5_ (x1_ (jb_ (do_ s)) (sgP (prL s)) (by omega) (by omega))] (by simp only [go_sem, seval, ag_, am_, ac_, ai_, aq_, a2_, az_]; rfl) ?_ ?_))
      ·first | trivial | simp
      refine .ret ⟨.inr rfl, ?_⟩
      exact Out.plain (by simp only [Tryz.results3]; rfl) (by simp only [a1_, a9_, go_sem, seval, ag_, am_, ac_, ai_, aq_, a2_, az_] <;> (split <;> rfl)) (by simp only [a8_, go_sem, seval, ag_, am_, ac_, ai_, aq_, a2_, az_] <;> (have hb : do_ s ≠ [] := (fun e => by rw [e] at h24; simp at h24); have hp : prR s = true := (by simpa using h49); have e : prL s = fh_ (do_ s) := (by rw [hL, if_pos hp, f6 hb]); rw [e, f4 hb, f5 hb]; simp)) (by simp only [go_sem, seval, ag_, am_, ac_, ai_, aq_, a2_, az_])
end Go.Proofs.YtpikbndepapbhaaGreatDoor
