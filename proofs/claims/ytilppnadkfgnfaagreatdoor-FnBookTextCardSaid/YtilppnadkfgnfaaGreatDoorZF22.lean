/- The law FnBookText: what it answers. Conditions: none. -/
import Derived.Test.YtilppnadkfgnfaaGreatDoorK13
import Derived.Test.YtilppnadkfgnfaaGreatDoorK14
import Derived.Test.YtilppnadkfgnfaaGreatDoorK10
set_option linter.unusedVariables false
set_option linter.unusedSimpArgs false
namespace Go.Proofs.YtilppnadkfgnfaaGreatDoor
set_option maxRecDepth 100000
set_option maxHeartbeats 4000000
theorem abh_ (c : Str) : ACall En 6 [.sl false (byR c)] [] [.b true] [] := by
 have DA := abd_ c
 have hB := amb_ (c.take 2000) 0
 have hn := aiu_ (c.take 2000) 0
 generalize (dBk (c.take 2000) 0).1 = l at *
 have t1 := aed_ l
 have t2 := aex_ l
 have hf := an4_ (f2_ l)
 have ho := p0_ (f2_ l)
 have W := am9_ (fv_ (f2_ l)) l (by omega) (by omega) (fun p hp => by have := (hf p hp).2.2; omega)
 have f1 := @ag8_ l
 have f2 := @aco_ l
 have f3 := @ma_ l
 refine al_ (fn := Tryz.f6) [] Tryz.func6 rfl rfl (by simp) fun C => ?_
 rw [ay_]
 simp only [Tryz.ntmps6, T7_, List.length_nil, Nat.reduceAdd, Nat.reduceSub, List.replicate_succ, List.replicate_zero, List.cons_append, List.nil_append, bp_]
 refine .seq (.rgn [] (by simp only [go_sem, seval, ad_, af_, aa_, ab_]; rfl) ?_ ?_)
 ·first | trivial | simp
 refine .seq (.seq (.rgn [] (by simp only [go_sem, seval, ad_, af_, aa_, ab_]; rfl) ?_ ?_))
 ·first | trivial | simp
 refine .condB (by simp only [go_sem, seval, ad_, af_, aa_, ab_]; rfl) (by simp only [go_sem, seval, ad_, af_, aa_, ab_]) (fun h7 => ?_) (fun h7 => ?_)
 ·refine .seq (.rgn [] (by simp only [go_sem, seval, ad_, af_, aa_, ab_]; rfl) ?_ ?_)
  ·first | trivial | simp
  refine .ret ⟨.inr rfl, ?_⟩
  exact Out.plain (by simp only [Tryz.results6]; rfl) (by simp only [az_, a7_, go_sem, seval, ad_, af_, aa_, ab_] <;> (split <;> rfl)) (by simp only [a5_, go_sem, seval, ad_, af_, aa_, ab_] <;> (rfl)) (by simp only [go_sem, seval, ad_, af_, aa_, ab_])
 ·refine .skip (.seq (.rgn [a4_ DA] (by simp only [go_sem, seval, ad_, af_, aa_, ab_]; rfl) ?_ ?_))
  ·first | trivial | simp
  refine .seq (.rgn [a4_ (aaa_ l hB (by omega))] (by simp only [go_sem, seval, ad_, af_, aa_, ab_]; rfl) ?_ ?_)
  ·first | trivial | simp
  refine .seq (.seq (.rgn [a4_ (v3_ l hB (by omega)), a4_ (h6_ l hB (by omega))] (by simp only [go_sem, seval, ad_, af_, aa_, ab_]; rfl) ?_ ?_))
  ·first | trivial | simp
  refine .condB (by simp only [go_sem, seval, ad_, af_, aa_, ab_]; rfl) (by simp only [go_sem, seval, ad_, af_, aa_, ab_]) (fun h20 => ?_) (fun h20 => ?_)
  ·refine .seq (.rgn [a4_ (v3_ l hB (by omega))] (by simp only [go_sem, seval, ad_, af_, aa_, ab_]; rfl) ?_ ?_)
   ·first | trivial | simp
   refine .ret ⟨.inr rfl, ?_⟩
   exact Out.plain (by simp only [Tryz.results6]; rfl) (by simp only [az_, a7_, go_sem, seval, ad_, af_, aa_, ab_] <;> (split <;> rfl)) (by simp only [a5_, go_sem, seval, ad_, af_, aa_, ab_] <;> (simp)) (by simp only [go_sem, seval, ad_, af_, aa_, ab_])
  ·refine .skip (.seq (.rgn [a4_ (agz_ (f2_ l) (by omega)), a4_ W, a4_ (sn_ l hB (by omega)), a4_ (iv_ (ji_ l) (by omega)), a4_ (iv_ (f2_ l) (by omega))] (by simp only [go_sem, seval, ad_, af_, aa_, ab_]; rfl) ?_ ?_))
   ·first | trivial | simp
   refine .ret ⟨.inr rfl, ?_⟩
   exact Out.plain (by simp only [Tryz.results6]; rfl) (by simp only [az_, a7_, go_sem, seval, ad_, af_, aa_, ab_] <;> (split <;> rfl)) (by simp only [a5_, go_sem, seval, ad_, af_, aa_, ab_] <;> (have h : cl_ l = true := (by simpa using h20); simp [f1 h, f2 h, f3 h])) (by simp only [go_sem, seval, ad_, af_, aa_, ab_])
end Go.Proofs.YtilppnadkfgnfaaGreatDoor
