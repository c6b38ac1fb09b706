/- The law FnExactBookText: what it answers. Conditions: none. -/
import Derived.Test.YtpikbndepapbhabGreatDoorK17
import Derived.Test.YtpikbndepapbhabGreatDoorK13
set_option linter.unusedVariables false
set_option linter.unusedSimpArgs false
namespace Go.Proofs.YtpikbndepapbhabGreatDoor
set_option maxRecDepth 100000
set_option maxHeartbeats 4000000
theorem j1_ (l : List Pg) (hb : (∀ s ∈ l, bdP s = true) ∧ l.length ≤ 9223372036854775807) : ACall En 11 [.sl false (pgR l)] [] [.b true] [] := by
 have hs : 0 ≤ fm_ l 1048576 → (∀ p ∈ l, pgB p ∧ p.frm.length ≤ 1048576) ∧ l.length ≤ 1048576 := r8_
 refine ak_ (fn := Tryz.f11) [] Tryz.func11 rfl rfl (by simp) fun C => ?_
 rw [aw_]
 simp only [Tryz.ntmps11, T7_, List.length_nil, Nat.reduceAdd, Nat.reduceSub, List.replicate_succ, List.replicate_zero, List.cons_append, List.nil_append, bk_]
 refine .seq (.rgn [] (by simp only [go_sem, seval, ah_, al_]; rfl) ?_ ?_)
 ·(first | trivial | (simp; done) | (simp only [T4_] at h11; omega) | (simp only [T4_] at h11; exact ⟨by omega, by omega⟩))
 refine .seq (.rgn [] (by simp only [go_sem, seval, ah_, al_]; rfl) ?_ ?_)
 ·(first | trivial | (simp; done) | (simp only [T4_] at h11; omega) | (simp only [T4_] at h11; exact ⟨by omega, by omega⟩))
 refine .seq (.rgn [a3_ (mv_ l hb.1 hb.2 1048576 (by decide) (by decide))] (by simp only [go_sem, seval, ah_, al_]; rfl) ?_ ?_)
 ·(first | trivial | (simp; done) | (simp only [T4_] at h11; omega) | (simp only [T4_] at h11; exact ⟨by omega, by omega⟩))
 refine .seq (.seq (.rgn [] (by simp only [go_sem, seval, ah_, al_]; rfl) ?_ ?_))
 ·(first | trivial | (simp; done) | (simp only [T4_] at h11; omega) | (simp only [T4_] at h11; exact ⟨by omega, by omega⟩))
 refine .condB (by simp only [go_sem, seval, ah_, al_]; rfl) (by simp only [go_sem, seval, ah_, al_]) (fun h11 => ?_) (fun h11 => ?_)
 ·refine .seq (.rgn [] (by simp only [go_sem, seval, ah_, al_]; rfl) ?_ ?_)
  ·(first | trivial | (simp; done) | (simp only [T4_] at h11; omega) | (simp only [T4_] at h11; exact ⟨by omega, by omega⟩))
  refine .ret ⟨.inr rfl, ?_⟩
  exact Out.plain (by simp only [Tryz.results11]; rfl) (by simp only [av_, a5_, go_sem, seval, ah_, al_] <;> (split <;> rfl)) (by simp only [a2_, go_sem, seval, ah_, al_] <;> (rfl)) (by simp only [go_sem, seval, ah_, al_])
 ·refine .skip (.seq (.rgn [by_ (0 ≤ fm_ l 1048576) (fun h => ei_ l (fun p hp => ((hs h).1 p hp).2) (hs h).2), by_ (0 ≤ fm_ l 1048576) (fun h => ue_ l (fun p hp => ((hs h).1 p hp).1) (by have := (hs h).2; omega))] (by simp only [go_sem, seval, ah_, al_]; rfl) ?_ ?_))
  ·(first | trivial | (simp; done) | (simp only [T4_] at h11; omega) | (simp only [T4_] at h11; exact ⟨by omega, by omega⟩))
  refine .seq (.rgn [by_ (0 ≤ fm_ l 1048576) (fun h => ei_ l (fun p hp => ((hs h).1 p hp).2) (hs h).2)] (by simp only [go_sem, seval, ah_, al_]; rfl) ?_ ?_)
  ·(first | trivial | (simp; done) | (simp only [T4_] at h11; omega) | (simp only [T4_] at h11; exact ⟨by omega, by omega⟩))
  refine .seq (.rgn [by_ (0 ≤ fm_ l 1048576) (fun h => vr_ l (fun p hp => ((hs h).1 p hp).1) (by have := (hs h).2; omega))] (by simp only [go_sem, seval, ah_, al_]; rfl) ?_ ?_)
  ·(first | trivial | (simp; done) | (simp only [T4_] at h11; omega) | (simp only [T4_] at h11; exact ⟨by omega, by omega⟩))
  refine .seq (.seq (.rgn [] (by simp only [go_sem, seval, ah_, al_]; rfl) ?_ ?_))
  ·(first | trivial | (simp; done) | (simp only [T4_] at h11; omega) | (simp only [T4_] at h11; exact ⟨by omega, by omega⟩))
  refine .condB (by simp only [go_sem, seval, ah_, al_]; rfl) (by simp only [go_sem, seval, ah_, al_]) (fun h21 => ?_) (fun h21 => ?_)
  ·simp at h21
  ·refine .skip (.seq (.seq (.rgn [by_ (0 ≤ fm_ l 1048576) (fun h => ei_ l (fun p hp => ((hs h).1 p hp).2) (hs h).2), by_ (0 ≤ fm_ l 1048576) (fun h => mn_ l l (fun p hp => by have := ((hs h).1 p hp).2; omega) (fun p hp => by have := ((hs h).1 p hp).2; omega) (hs h).2 (hs h).2)] (by simp only [go_sem, seval, ah_, al_]; rfl) ?_ ?_)))
   ·(first | trivial | (simp; done) | (simp only [T4_] at h11; omega) | (simp only [T4_] at h11; exact ⟨by omega, by omega⟩))
   refine .condB (by simp only [go_sem, seval, ah_, al_]; rfl) (by simp only [go_sem, seval, ah_, al_]) (fun h26 => ?_) (fun h26 => ?_)
   ·simp at h26
   ·refine .skip (.seq (.rgn [] (by simp only [go_sem, seval, ah_, al_]; rfl) ?_ ?_))
    ·(first | trivial | (simp; done) | (simp only [T4_] at h11; omega) | (simp only [T4_] at h11; exact ⟨by omega, by omega⟩))
    refine .ret ⟨.inr rfl, ?_⟩
    exact Out.plain (by simp only [Tryz.results11]; rfl) (by simp only [av_, a5_, go_sem, seval, ah_, al_] <;> (split <;> rfl)) (by simp only [a2_, go_sem, seval, ah_, al_] <;> (rfl)) (by simp only [go_sem, seval, ah_, al_])
end Go.Proofs.YtpikbndepapbhabGreatDoor
