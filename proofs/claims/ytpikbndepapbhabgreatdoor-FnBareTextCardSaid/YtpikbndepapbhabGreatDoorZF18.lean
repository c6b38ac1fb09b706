/- The law FnBareText: what it answers. Conditions: none. -/
import Derived.Test.YtpikbndepapbhabGreatDoorK8
set_option linter.unusedVariables false
set_option linter.unusedSimpArgs false
namespace Go.Proofs.YtpikbndepapbhabGreatDoor
set_option maxRecDepth 100000
set_option maxHeartbeats 8000000
theorem x4_ (w : Str) : smb ((c7_ w).getD B0) = true := by
 obtain ⟨w1, w2⟩ := m1_ w
 cases h : c7_ w with
 | none => exact abq_
 | some b =>
  have : b = eg_ (cl_ w) := by
   by_cases hc : (b4_ w).isSome = true ∧ bok (eg_ (cl_ w)) = true ∧ dk_ (eg_ (cl_ w)) = w
   ·rw [jf_ hc.1 hc.2.1 hc.2.2] at h; exact (Option.some.inj h).symm
   ·rw [jg_ hc] at h; cases h
  rw [this]; exact rv_ w1
theorem wa_ (a : Bl) : m4_ a a = true := (yu_ a a).2 rfl
theorem ahg_ {x : Bl} (h : bok x = true) : c7_ (dk_ x) = some x := g3_.2 ⟨h, by unfold dk_ pt_; rw [if_pos h]⟩
theorem ael_ (t : Str) : match c7_ t with | none => True | some y => bok y = true ∧ dk_ y = t := by
 cases h : c7_ t with
 | none => trivial
 | some y => exact ⟨(g3_.1 h).1, by unfold dk_; rw [if_pos (g3_.1 h).1]; exact (g3_.1 h).2⟩
theorem ph_ (b c : Str) : ACall En 4 [.sl false (byR b), .sl false (byR c)] [] [.b true] [] := by
 have DT := m6_ b
 have DR := m5_ c
 have DS := nh_ b
 have x1 := (ze_ (b.take 2000) (p := 0) (by decide) (by decide)).2.2
 obtain ⟨s1, s2⟩ := ah4_ b
 have l1 := aa4_ (c.take 2000)
 generalize ss_ (c.take 2000) = t at *
 generalize (d7 (b.take 2000) 0).1 = x at *
 generalize (dBS b).1 = u at *
 generalize (dBS b).2 = v at *
 have k1 := kl_ x
 have y1 : smb ((c7_ (dk_ x)).getD B0) = true := x4_ _
 have z1 : smb ((c7_ t).getD B0) = true := x4_ _
 refine al_ (fn := Tryz.f4) [] Tryz.func4 rfl rfl (by simp) fun C => ?_
 rw [aw_]
 simp only [Tryz.ntmps4, T7_, List.length_nil, Nat.reduceAdd, Nat.reduceSub, List.replicate_succ, List.replicate_zero, List.cons_append, List.nil_append, bo_]
 refine .seq (.rgn [] (by simp only [go_sem, seval, ae_, ay_]; rfl) ?_ ?_)
 ·(first | trivial | (simp; done) | exact fun h => ⟨h, fun h2 => by rw [h, h2]; rfl⟩ | exact ⟨fun h => ⟨h, fun h2 => by rw [h, h2]; rfl⟩, fun h => by rw [h]; rfl⟩)
 refine .seq (.seq (.rgn [] (by simp only [go_sem, seval, ae_, ay_]; rfl) ?_ ?_))
 ·(first | trivial | (simp; done) | exact fun h => ⟨h, fun h2 => by rw [h, h2]; rfl⟩ | exact ⟨fun h => ⟨h, fun h2 => by rw [h, h2]; rfl⟩, fun h => by rw [h]; rfl⟩)
 refine .condB (by simp only [go_sem, seval, ae_, ay_]; rfl) (by simp only [go_sem, seval, ae_, ay_]) (fun h23 => ?_) (fun h23 => ?_)
 ·refine .seq (.rgn [] (by simp only [go_sem, seval, ae_, ay_]; rfl) ?_ ?_)
  ·(first | trivial | (simp; done) | exact fun h => ⟨h, fun h2 => by rw [h, h2]; rfl⟩ | exact ⟨fun h => ⟨h, fun h2 => by rw [h, h2]; rfl⟩, fun h => by rw [h]; rfl⟩)
  refine .ret ⟨.inr rfl, ?_⟩
  exact Out.plain (by simp only [Tryz.results4]; rfl) (by simp only [av_, a3_, go_sem, seval, ae_, ay_] <;> (split <;> rfl)) (by simp only [a2_, go_sem, seval, ae_, ay_] <;> (rfl)) (by simp only [go_sem, seval, ae_, ay_])
 ·refine .skip (.seq (.rgn [a1_ DT] (by simp only [go_sem, seval, ae_, ay_]; rfl) ?_ ?_))
  ·(first | trivial | (simp; done) | exact fun h => ⟨h, fun h2 => by rw [h, h2]; rfl⟩ | exact ⟨fun h => ⟨h, fun h2 => by rw [h, h2]; rfl⟩, fun h => by rw [h]; rfl⟩)
  refine .seq (.rgn [a1_ (io_ x x1)] (by simp only [go_sem, seval, ae_, ay_]; rfl) ?_ ?_)
  ·(first | trivial | (simp; done) | exact fun h => ⟨h, fun h2 => by rw [h, h2]; rfl⟩ | exact ⟨fun h => ⟨h, fun h2 => by rw [h, h2]; rfl⟩, fun h => by rw [h]; rfl⟩)
  refine .seq (.rgn [a1_ (ig_ (dk_ x) (by omega))] (by simp only [go_sem, seval, ae_, ay_]; rfl) ?_ ?_)
  ·(first | trivial | (simp; done) | exact fun h => ⟨h, fun h2 => by rw [h, h2]; rfl⟩ | exact ⟨fun h => ⟨h, fun h2 => by rw [h, h2]; rfl⟩, fun h => by rw [h]; rfl⟩)
  refine .seq (.seq (.rgnD [a1_ (gc_ x x1), a1_ (g8_ x x1), a1_ (f5_ x x1), a1_ (f5_ x x1), a1_ (if_ ((c7_ (dk_ x)).getD B0) x y1 x1)] enM (by simp only [go_sem, seval, ae_, ay_]; rfl) (by rfl) ?_ ?_))
  ·(first | trivial | (simp; done) | exact fun h => ⟨h, fun h2 => by rw [h, h2]; rfl⟩ | exact ⟨fun h => ⟨h, fun h2 => by rw [h, h2]; rfl⟩, fun h => by rw [h]; rfl⟩)
  refine .condB (by simp only [go_sem, seval, ae_, ay_]; rfl) (by simp only [go_sem, seval, ae_, ay_]) (fun h57 => ?_) (fun h57 => ?_)
  ·refine .seq (.rgn [] (by simp only [go_sem, seval, ae_, ay_]; rfl) ?_ ?_)
   ·(first | trivial | (simp; done) | exact fun h => ⟨h, fun h2 => by rw [h, h2]; rfl⟩ | exact ⟨fun h => ⟨h, fun h2 => by rw [h, h2]; rfl⟩, fun h => by rw [h]; rfl⟩)
   refine .ret ⟨.inr rfl, ?_⟩
   exact Out.plain (by simp only [Tryz.results4]; rfl) (by simp only [av_, a3_, go_sem, seval, ae_, ay_] <;> (split <;> rfl)) (by simp only [a2_, go_sem, seval, ae_, ay_] <;> (exfalso; simp only [T5_] at h57; have e := ahg_ h57.1; rw [e] at h57; simp [wa_] at h57)) (by simp only [go_sem, seval, ae_, ay_])
  ·refine .skip (.seq (.rgn [a1_ DR] (by simp only [go_sem, seval, ae_, ay_]; rfl) ?_ ?_))
   ·(first | trivial | (simp; done) | exact fun h => ⟨h, fun h2 => by rw [h, h2]; rfl⟩ | exact ⟨fun h => ⟨h, fun h2 => by rw [h, h2]; rfl⟩, fun h => by rw [h]; rfl⟩)
   refine .seq (.rgn [a1_ (ig_ t (by omega))] (by simp only [go_sem, seval, ae_, ay_]; rfl) ?_ ?_)
   ·(first | trivial | (simp; done) | exact fun h => ⟨h, fun h2 => by rw [h, h2]; rfl⟩ | exact ⟨fun h => ⟨h, fun h2 => by rw [h, h2]; rfl⟩, fun h => by rw [h]; rfl⟩)
   refine .seq (.rgn [a1_ (l5_ t (by omega))] (by simp only [go_sem, seval, ae_, ay_]; rfl) ?_ ?_)
   ·(first | trivial | (simp; done) | exact fun h => ⟨h, fun h2 => by rw [h, h2]; rfl⟩ | exact ⟨fun h => ⟨h, fun h2 => by rw [h, h2]; rfl⟩, fun h => by rw [h]; rfl⟩)
   refine .seq (.rgn [a1_ DS] (by simp only [go_sem, seval, ae_, ay_]; rfl) ?_ ?_)
   ·(first | trivial | (simp; done) | exact fun h => ⟨h, fun h2 => by rw [h, h2]; rfl⟩ | exact ⟨fun h => ⟨h, fun h2 => by rw [h, h2]; rfl⟩, fun h => by rw [h]; rfl⟩)
   refine .seq (.rgnD [a1_ (io_ ((c7_ t).getD B0) z1), a1_ (g8_ ((c7_ t).getD B0) z1), a1_ (if_ u v s1 s2), a1_ (t6_ u v s1 s2), a1_ (if_ u u s1 s1)] enM (by simp only [go_sem, seval, ae_, ay_]; rfl) (by rfl) ?_ ?_)
   ·(first | trivial | (simp; done) | exact fun h => ⟨h, fun h2 => by rw [h, h2]; rfl⟩ | exact ⟨fun h => ⟨h, fun h2 => by rw [h, h2]; rfl⟩, fun h => by rw [h]; rfl⟩)
   refine .ret ⟨.inr rfl, ?_⟩
   exact Out.plain (by simp only [Tryz.results4]; rfl) (by simp only [av_, a3_, go_sem, seval, ae_, ay_] <;> (split <;> rfl)) (by simp only [a2_, go_sem, seval, ae_, ay_] <;> (have e := ael_ t; cases h : c7_ t with | none => simp [wa_] | some y => (rw [h] at e; simp [e.1, e.2, wa_]))) (by simp only [go_sem, seval, ae_, ay_])
end Go.Proofs.YtpikbndepapbhabGreatDoor
