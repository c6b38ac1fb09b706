/- The law FnExactPageOf: what it answers. Conditions: none. -/
import Derived.Test.YtpikbndepapbhabGreatDoorK11
set_option linter.unusedVariables false
set_option linter.unusedSimpArgs false
namespace Go.Proofs.YtpikbndepapbhabGreatDoor
set_option maxRecDepth 100000
set_option maxHeartbeats 4000000
theorem zb_ (s : Str) : (fx_ s).frm.length ≤ 1000000 := by
 unfold fx_
 split
 ·cases h : ck_ s with
  | none => simp
  | some x => have := emFL (h8_.1 h).1; dsimp only; omega
 ·simp [Pg0]
theorem ly_ (s : Str) (hl : s.length ≤ 9223372036854775807) : ACall En 6 [.s s] [] [.b true] [] := by
 have PO := fun h : s.length ≤ 1048576 => wf_ s (by omega)
 have PI := fun h : s.length ≤ 1048576 => l8_ s (by omega)
 have PS := fun h : s.length ≤ 1048576 => l9_ s (by omega)
 have L := zb_ s
 generalize fx_ s = p at *
 refine ak_ (fn := Tryz.f6) [] Tryz.func6 rfl rfl (by simp) fun C => ?_
 rw [aw_]
 simp only [Tryz.ntmps6, T7_, List.length_nil, Nat.reduceAdd, Nat.reduceSub, List.replicate_succ, List.replicate_zero, List.cons_append, List.nil_append, bk_]
 refine .seq (.rgn [] (by simp only [go_sem, seval, ab_, ad_, ba_, bb_, ag_, aj_, ao_]; rfl) ?_ ?_)
 ·(first | trivial | (simp; done) | (simp only [T4_] at h10; omega) | (simp only [T4_] at h10; exact ⟨by simp, by omega⟩))
 refine .seq (.seq (.rgn [] (by simp only [go_sem, seval, ab_, ad_, ba_, bb_, ag_, aj_, ao_]; rfl) ?_ ?_))
 ·(first | trivial | (simp; done) | (simp only [T4_] at h10; omega) | (simp only [T4_] at h10; exact ⟨by simp, by omega⟩))
 refine .condB (by simp only [go_sem, seval, ab_, ad_, ba_, bb_, ag_, aj_, ao_]; rfl) (by simp only [go_sem, seval, ab_, ad_, ba_, bb_, ag_, aj_, ao_]) (fun h10 => ?_) (fun h10 => ?_)
 ·refine .seq (.rgn [] (by simp only [go_sem, seval, ab_, ad_, ba_, bb_, ag_, aj_, ao_]; rfl) ?_ ?_)
  ·(first | trivial | (simp; done) | (simp only [T4_] at h10; omega) | (simp only [T4_] at h10; exact ⟨by simp, by omega⟩))
  refine .ret ⟨.inr rfl, ?_⟩
  exact Out.plain (by simp only [Tryz.results6]; rfl) (by simp only [av_, a5_, go_sem, seval, ab_, ad_, ba_, bb_, ag_, aj_, ao_] <;> (split <;> rfl)) (by simp only [a2_, go_sem, seval, ab_, ad_, ba_, bb_, ag_, aj_, ao_] <;> (rfl)) (by simp only [go_sem, seval, ab_, ad_, ba_, bb_, ag_, aj_, ao_])
 ·refine .skip (.seq (.rgn [by_ (s.length ≤ 1048576) PS] (by simp only [go_sem, seval, ab_, ad_, ba_, bb_, ag_, aj_, ao_]; rfl) ?_ ?_))
  ·(first | trivial | (simp; done) | (simp only [T4_] at h10; omega) | (simp only [T4_] at h10; exact ⟨by simp, by omega⟩))
  refine .seq (.rgn [s1_ [] [24] (s.length ≤ 1048576) PO] (by simp only [go_sem, seval, ab_, ad_, ba_, bb_, ag_, aj_, ao_]; rfl) ?_ ?_)
  ·(first | trivial | (simp; done) | (simp only [T4_] at h10; omega) | (simp only [T4_] at h10; exact ⟨by simp, by omega⟩))
  refine .seq (.seq (.rgn [br_ [24] [] (z8_ p p L L)] (by simp only [go_sem, seval, ab_, ad_, ba_, bb_, ag_, aj_, ao_]; rfl) ?_ ?_))
  ·(first | trivial | (simp; done) | (simp only [T4_] at h10; omega) | (simp only [T4_] at h10; exact ⟨by simp, by omega⟩))
  refine .condB (by simp only [go_sem, seval, ab_, ad_, ba_, bb_, ag_, aj_, ao_]; rfl) (by simp only [go_sem, seval, ab_, ad_, ba_, bb_, ag_, aj_, ao_]) (fun h18 => ?_) (fun h18 => ?_)
  ·simp at h18
  ·refine .skip (.seq (.rgn [] (by simp only [go_sem, seval, ab_, ad_, ba_, bb_, ag_, aj_, ao_]; rfl) ?_ ?_))
   ·(first | trivial | (simp; done) | (simp only [T4_] at h10; omega) | (simp only [T4_] at h10; exact ⟨by simp, by omega⟩))
   refine .seq (.rgn [br_ [24] [] (w8_ p 1 L (by decide) (by decide))] (by simp only [go_sem, seval, ab_, ad_, ba_, bb_, ag_, aj_, ao_]; rfl) ?_ ?_)
   ·(first | trivial | (simp; done) | (simp only [T4_] at h10; omega) | (simp only [T4_] at h10; exact ⟨by simp, by omega⟩))
   refine .seq (.rgn [] (by simp only [go_sem, seval, ab_, ad_, ba_, bb_, ag_, aj_, ao_]; rfl) ?_ ?_)
   ·(first | trivial | (simp; done) | (simp only [T4_] at h10; omega) | (simp only [T4_] at h10; exact ⟨by simp, by omega⟩))
   refine .seq (.rgn [br_ [24] [] (om_ p 1 L (by decide) (by decide))] (by simp only [go_sem, seval, ab_, ad_, ba_, bb_, ag_, aj_, ao_]; rfl) ?_ ?_)
   ·(first | trivial | (simp; done) | (simp only [T4_] at h10; omega) | (simp only [T4_] at h10; exact ⟨by simp, by omega⟩))
   refine .seq (.seq (.rgn [] (by simp only [go_sem, seval, ab_, ad_, ba_, bb_, ag_, aj_, ao_]; rfl) ?_ ?_))
   ·(first | trivial | (simp; done) | (simp only [T4_] at h10; omega) | (simp only [T4_] at h10; exact ⟨by simp, by omega⟩))
   refine .condB (by simp only [go_sem, seval, ab_, ad_, ba_, bb_, ag_, aj_, ao_]; rfl) (by simp only [go_sem, seval, ab_, ad_, ba_, bb_, ag_, aj_, ao_]) (fun h26 => ?_) (fun h26 => ?_)
   ·simp at h26; omega
   ·refine .skip (.seq (.seq (.rgn [] (by simp only [go_sem, seval, ab_, ad_, ba_, bb_, ag_, aj_, ao_]; rfl) ?_ ?_)))
    ·(first | trivial | (simp; done) | (simp only [T4_] at h10; omega) | (simp only [T4_] at h10; exact ⟨by simp, by omega⟩))
    refine .condB (by simp only [go_sem, seval, ab_, ad_, ba_, bb_, ag_, aj_, ao_]; rfl) (by simp only [go_sem, seval, ab_, ad_, ba_, bb_, ag_, aj_, ao_]) (fun h29 => ?_) (fun h29 => ?_)
    ·simp at h29
    ·refine .skip (.seq (.rgn [by_ (s.length ≤ 1048576) PI] (by simp only [go_sem, seval, ab_, ad_, ba_, bb_, ag_, aj_, ao_]; rfl) ?_ ?_))
     ·(first | trivial | (simp; done) | (simp only [T4_] at h10; omega) | (simp only [T4_] at h10; exact ⟨by simp, by omega⟩))
     refine .seq (.seq (.rgn [a3_ (adw_ p p L L)] (by simp only [go_sem, seval, ab_, ad_, ba_, bb_, ag_, aj_, ao_]; rfl) ?_ ?_))
     ·(first | trivial | (simp; done) | (simp only [T4_] at h10; omega) | (simp only [T4_] at h10; exact ⟨by simp, by omega⟩))
     refine .condB (by simp only [go_sem, seval, ab_, ad_, ba_, bb_, ag_, aj_, ao_]; rfl) (by simp only [go_sem, seval, ab_, ad_, ba_, bb_, ag_, aj_, ao_]) (fun h35 => ?_) (fun h35 => ?_)
     ·simp at h35
     ·refine .skip (.seq (.rgn [] (by simp only [go_sem, seval, ab_, ad_, ba_, bb_, ag_, aj_, ao_]; rfl) ?_ ?_))
      ·(first | trivial | (simp; done) | (simp only [T4_] at h10; omega) | (simp only [T4_] at h10; exact ⟨by simp, by omega⟩))
      refine .seq (.rgn [br_ [24] [] (om_ p 1 L (by decide) (by decide))] (by simp only [go_sem, seval, ab_, ad_, ba_, bb_, ag_, aj_, ao_]; rfl) ?_ ?_)
      ·(first | trivial | (simp; done) | (simp only [T4_] at h10; omega) | (simp only [T4_] at h10; exact ⟨by simp, by omega⟩))
      refine .seq (.seq (.rgn [] (by simp only [go_sem, seval, ab_, ad_, ba_, bb_, ag_, aj_, ao_]; rfl) ?_ ?_))
      ·(first | trivial | (simp; done) | (simp only [T4_] at h10; omega) | (simp only [T4_] at h10; exact ⟨by simp, by omega⟩))
      refine .condB (by simp only [go_sem, seval, ab_, ad_, ba_, bb_, ag_, aj_, ao_]; rfl) (by simp only [go_sem, seval, ab_, ad_, ba_, bb_, ag_, aj_, ao_]) (fun h40 => ?_) (fun h40 => ?_)
      ·simp at h40; omega
      ·refine .skip (.seq (.seq (.rgn [] (by simp only [go_sem, seval, ab_, ad_, ba_, bb_, ag_, aj_, ao_]; rfl) ?_ ?_)))
       ·(first | trivial | (simp; done) | (simp only [T4_] at h10; omega) | (simp only [T4_] at h10; exact ⟨by simp, by omega⟩))
       refine .condB (by simp only [go_sem, seval, ab_, ad_, ba_, bb_, ag_, aj_, ao_]; rfl) (by simp only [go_sem, seval, ab_, ad_, ba_, bb_, ag_, aj_, ao_]) (fun h43 => ?_) (fun h43 => ?_)
       ·simp at h43
       ·refine .skip (.seq (.rgn [] (by simp only [go_sem, seval, ab_, ad_, ba_, bb_, ag_, aj_, ao_]; rfl) ?_ ?_))
        ·(first | trivial | (simp; done) | (simp only [T4_] at h10; omega) | (simp only [T4_] at h10; exact ⟨by simp, by omega⟩))
        refine .ret ⟨.inr rfl, ?_⟩
        exact Out.plain (by simp only [Tryz.results6]; rfl) (by simp only [av_, a5_, go_sem, seval, ab_, ad_, ba_, bb_, ag_, aj_, ao_] <;> (split <;> rfl)) (by simp only [a2_, go_sem, seval, ab_, ad_, ba_, bb_, ag_, aj_, ao_] <;> (rfl)) (by simp only [go_sem, seval, ab_, ad_, ba_, bb_, ag_, aj_, ao_])
end Go.Proofs.YtpikbndepapbhabGreatDoor
