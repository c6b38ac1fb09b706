/- The law FnExactBareAll: what it answers. Conditions: none. -/
import Derived.Test.YtpikbndepapbhabGreatDoorK7
import Derived.Test.YtpikbndepapbhabGreatDoorK8
set_option linter.unusedVariables false
set_option linter.unusedSimpArgs false
namespace Go.Proofs.YtpikbndepapbhabGreatDoor
set_option maxRecDepth 100000
set_option maxHeartbeats 4000000
theorem kc_ (l : List Bl) : (ca_ l).1.length ≤ 16 := by
 unfold ca_
 split
 ·rename_i h
  have := (dl_ (l := l) (Nat.le_refl _) (cr_ h).2.1).2.2
  rwa [List.take_length] at this
 ·simp
theorem e0_ (s : Str) : (fl_ s).1.length ≤ 16 := by
 unfold fl_; split
 ·exact kc_ _
 ·simp
theorem ks_ (s : Str) (hl : s.length ≤ 9223372036854775807) : ACall En 5 [.s s] [] [.b true] [] := by
 refine al_ (fn := Tryz.f5) [] Tryz.func5 rfl rfl (by simp) fun C => ?_
 rw [aw_]
 simp only [Tryz.ntmps5, T7_, List.length_nil, Nat.reduceAdd, Nat.reduceSub, List.replicate_succ, List.replicate_zero, List.cons_append, List.nil_append, bo_]
 refine .seq (.rgn [] (by simp only [go_sem, seval, ac_, af_, a5_]; rfl) ?_ ?_)
 ·(first | trivial | (simp; done) | (simp only [T4_] at h13; refine ⟨?_, by omega⟩; first | (simp; done) | (rw [T1_ (by simp [af_, a5_])]; exact ba_ _)) | (simp only [T4_] at h13; omega))
 refine .seq (.seq (.rgn [] (by simp only [go_sem, seval, ac_, af_, a5_]; rfl) ?_ ?_))
 ·(first | trivial | (simp; done) | (simp only [T4_] at h13; refine ⟨?_, by omega⟩; first | (simp; done) | (rw [T1_ (by simp [af_, a5_])]; exact ba_ _)) | (simp only [T4_] at h13; omega))
 refine .condB (by simp only [go_sem, seval, ac_, af_, a5_]; rfl) (by simp only [go_sem, seval, ac_, af_, a5_]) (fun h13 => ?_) (fun h13 => ?_)
 ·refine .seq (.rgn [] (by simp only [go_sem, seval, ac_, af_, a5_]; rfl) ?_ ?_)
  ·(first | trivial | (simp; done) | (simp only [T4_] at h13; refine ⟨?_, by omega⟩; first | (simp; done) | (rw [T1_ (by simp [af_, a5_])]; exact ba_ _)) | (simp only [T4_] at h13; omega))
  refine .ret ⟨.inr rfl, ?_⟩
  exact Out.plain (by simp only [Tryz.results5]; rfl) (by simp only [av_, a3_, go_sem, seval, ac_, af_, a5_] <;> (split <;> rfl)) (by simp only [a2_, go_sem, seval, ac_, af_, a5_] <;> (rfl)) (by simp only [go_sem, seval, ac_, af_, a5_])
 ·refine .skip (.seq (.rgn [ck_ (s.length ≤ 1048576) (fun h => o7_ s (by omega))] (by simp only [go_sem, seval, ac_, af_, a5_]; rfl) ?_ ?_))
  ·(first | trivial | (simp; done) | (simp only [T4_] at h13; refine ⟨?_, by omega⟩; first | (simp; done) | (rw [T1_ (by simp [af_, a5_])]; exact ba_ _)) | (simp only [T4_] at h13; omega))
  refine .seq (.rgn [vw_ [] [31] (s.length ≤ 1048576) (fun h => ly_ s (by omega))] (by simp only [go_sem, seval, ac_, af_, a5_]; rfl) ?_ ?_)
  ·(first | trivial | (simp; done) | (simp only [T4_] at h13; refine ⟨?_, by omega⟩; first | (simp; done) | (rw [T1_ (by simp [af_, a5_])]; exact ba_ _)) | (simp only [T4_] at h13; omega))
  refine .seq (.seq (.rgn [o4_ (s.length ≤ 1048576) (fun h => s7_ (fl_ s).1 (fl_ s).1 (by have := e0_ s; omega) (by have := e0_ s; omega))] (by simp only [go_sem, seval, ac_, af_, a5_]; rfl) ?_ ?_))
  ·(first | trivial | (simp; done) | (simp only [T4_] at h13; refine ⟨?_, by omega⟩; first | (simp; done) | (rw [T1_ (by simp [af_, a5_])]; exact ba_ _)) | (simp only [T4_] at h13; omega))
  refine .condB (by simp only [go_sem, seval, ac_, af_, a5_]; rfl) (by simp only [go_sem, seval, ac_, af_, a5_]) (fun h32 => ?_) (fun h32 => ?_)
  ·simp at h32
  ·refine .skip (.seq (.rgn [] (by simp only [go_sem, seval, ac_, af_, a5_]; rfl) ?_ ?_))
   ·(first | trivial | (simp; done) | (simp only [T4_] at h13; refine ⟨?_, by omega⟩; first | (simp; done) | (rw [T1_ (by simp [af_, a5_])]; exact ba_ _)) | (simp only [T4_] at h13; omega))
   refine .seq (.rgn [vw_ [31] [] (s.length ≤ 1048576) (fun h => wp_ (fl_ s).1 1 (by have := e0_ s; omega) (by decide) (by decide))] (by simp only [go_sem, seval, ac_, af_, a5_]; rfl) ?_ ?_)
   ·(first | trivial | (simp; done) | (simp only [T4_] at h13; refine ⟨?_, by omega⟩; first | (simp; done) | (rw [T1_ (by simp [af_, a5_])]; exact ba_ _)) | (simp only [T4_] at h13; omega))
   refine .seq (.rgn [] (by simp only [go_sem, seval, ac_, af_, a5_]; rfl) ?_ ?_)
   ·(first | trivial | (simp; done) | (simp only [T4_] at h13; refine ⟨?_, by omega⟩; first | (simp; done) | (rw [T1_ (by simp [af_, a5_])]; exact ba_ _)) | (simp only [T4_] at h13; omega))
   refine .seq (.rgn [o4_ (s.length ≤ 1048576) (fun h => pb_ (fl_ s).1.length 1 (by have := e0_ s; omega) (by decide) (by decide))] (by simp only [go_sem, seval, ac_, af_, a5_]; rfl) ?_ ?_)
   ·(first | trivial | (simp; done) | (simp only [T4_] at h13; refine ⟨?_, by omega⟩; first | (simp; done) | (rw [T1_ (by simp [af_, a5_])]; exact ba_ _)) | (simp only [T4_] at h13; omega))
   refine .seq (.seq (.rgn [] (by simp only [go_sem, seval, ac_, af_, a5_]; rfl) ?_ ?_))
   ·(first | trivial | (simp; done) | (simp only [T4_] at h13; refine ⟨?_, by omega⟩; first | (simp; done) | (rw [T1_ (by simp [af_, a5_])]; exact ba_ _)) | (simp only [T4_] at h13; omega))
   refine .condB (by simp only [go_sem, seval, ac_, af_, a5_]; rfl) (by simp only [go_sem, seval, ac_, af_, a5_]) (fun h40 => ?_) (fun h40 => ?_)
   ·simp at h40; omega
   ·refine .skip (.seq (.seq (.rgn [] (by simp only [go_sem, seval, ac_, af_, a5_]; rfl) ?_ ?_)))
    ·(first | trivial | (simp; done) | (simp only [T4_] at h13; refine ⟨?_, by omega⟩; first | (simp; done) | (rw [T1_ (by simp [af_, a5_])]; exact ba_ _)) | (simp only [T4_] at h13; omega))
    refine .condB (by simp only [go_sem, seval, ac_, af_, a5_]; rfl) (by simp only [go_sem, seval, ac_, af_, a5_]) (fun h43 => ?_) (fun h43 => ?_)
    ·simp at h43
    ·refine .skip (.seq (.rgn [ck_ (s.length ≤ 1048576) (fun h => o6_ s (by omega))] (by simp only [go_sem, seval, ac_, af_, a5_]; rfl) ?_ ?_))
     ·(first | trivial | (simp; done) | (simp only [T4_] at h13; refine ⟨?_, by omega⟩; first | (simp; done) | (rw [T1_ (by simp [af_, a5_])]; exact ba_ _)) | (simp only [T4_] at h13; omega))
     refine .seq (.seq (.rgn [o4_ (s.length ≤ 1048576) (fun h => s7_ (fl_ s).1 (fl_ s).1 (by have := e0_ s; omega) (by have := e0_ s; omega))] (by simp only [go_sem, seval, ac_, af_, a5_]; rfl) ?_ ?_))
     ·(first | trivial | (simp; done) | (simp only [T4_] at h13; refine ⟨?_, by omega⟩; first | (simp; done) | (rw [T1_ (by simp [af_, a5_])]; exact ba_ _)) | (simp only [T4_] at h13; omega))
     refine .condB (by simp only [go_sem, seval, ac_, af_, a5_]; rfl) (by simp only [go_sem, seval, ac_, af_, a5_]) (fun h57 => ?_) (fun h57 => ?_)
     ·simp at h57
     ·refine .skip (.seq (.rgn [] (by simp only [go_sem, seval, ac_, af_, a5_]; rfl) ?_ ?_))
      ·(first | trivial | (simp; done) | (simp only [T4_] at h13; refine ⟨?_, by omega⟩; first | (simp; done) | (rw [T1_ (by simp [af_, a5_])]; exact ba_ _)) | (simp only [T4_] at h13; omega))
      refine .seq (.rgn [o4_ (s.length ≤ 1048576) (fun h => pb_ (fl_ s).1.length 1 (by have := e0_ s; omega) (by decide) (by decide))] (by simp only [go_sem, seval, ac_, af_, a5_]; rfl) ?_ ?_)
      ·(first | trivial | (simp; done) | (simp only [T4_] at h13; refine ⟨?_, by omega⟩; first | (simp; done) | (rw [T1_ (by simp [af_, a5_])]; exact ba_ _)) | (simp only [T4_] at h13; omega))
      refine .seq (.seq (.rgn [] (by simp only [go_sem, seval, ac_, af_, a5_]; rfl) ?_ ?_))
      ·(first | trivial | (simp; done) | (simp only [T4_] at h13; refine ⟨?_, by omega⟩; first | (simp; done) | (rw [T1_ (by simp [af_, a5_])]; exact ba_ _)) | (simp only [T4_] at h13; omega))
      refine .condB (by simp only [go_sem, seval, ac_, af_, a5_]; rfl) (by simp only [go_sem, seval, ac_, af_, a5_]) (fun h62 => ?_) (fun h62 => ?_)
      ·simp at h62; omega
      ·refine .skip (.seq (.seq (.rgn [] (by simp only [go_sem, seval, ac_, af_, a5_]; rfl) ?_ ?_)))
       ·(first | trivial | (simp; done) | (simp only [T4_] at h13; refine ⟨?_, by omega⟩; first | (simp; done) | (rw [T1_ (by simp [af_, a5_])]; exact ba_ _)) | (simp only [T4_] at h13; omega))
       refine .condB (by simp only [go_sem, seval, ac_, af_, a5_]; rfl) (by simp only [go_sem, seval, ac_, af_, a5_]) (fun h65 => ?_) (fun h65 => ?_)
       ·simp at h65
       ·refine .skip (.seq (.rgn [] (by simp only [go_sem, seval, ac_, af_, a5_]; rfl) ?_ ?_))
        ·(first | trivial | (simp; done) | (simp only [T4_] at h13; refine ⟨?_, by omega⟩; first | (simp; done) | (rw [T1_ (by simp [af_, a5_])]; exact ba_ _)) | (simp only [T4_] at h13; omega))
        refine .ret ⟨.inr rfl, ?_⟩
        exact Out.plain (by simp only [Tryz.results5]; rfl) (by simp only [av_, a3_, go_sem, seval, ac_, af_, a5_] <;> (split <;> rfl)) (by simp only [a2_, go_sem, seval, ac_, af_, a5_] <;> (rfl)) (by simp only [go_sem, seval, ac_, af_, a5_])
end Go.Proofs.YtpikbndepapbhabGreatDoor
