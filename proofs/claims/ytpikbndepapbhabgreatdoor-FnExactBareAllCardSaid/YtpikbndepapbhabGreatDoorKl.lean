/- Lines with types: words, text, ok: the program's and the reference's; without types. Conditions: none. -/
import Derived.Test.YtpikbndepapbhabGreatDoorKj
set_option linter.unusedVariables false
set_option linter.unusedSimpArgs false
namespace Go.Proofs.YtpikbndepapbhabGreatDoor
section
set_option maxRecDepth 100000
set_option maxHeartbeats 4000000
theorem if_ (a b : Bl) (ha : smb a = true) (hb : smb b = true) : ACall En 24 [.ag (bC a), .ag (bC b)] [] [.b (m4_ a b)] [] := by
 obtain ⟨a1, a2, a3⟩ := ek_ ha
 obtain ⟨b1, b2, b3⟩ := ek_ hb
 refine al_ (fn := Tryz.f24) [] Tryz.func24 rfl rfl (by simp) fun C => ?_
 rw [aw_]
 simp only [Tryz.ntmps24, T7_, List.length_nil, Nat.reduceAdd, Nat.reduceSub, List.replicate_succ, List.replicate_zero, List.cons_append, List.nil_append, bo_]
 refine .seq (.rgn [] (by simp only [go_sem, seval, ae_]; rfl) ?_ ?_)
 ·first | trivial | simp
 refine .seq (.rgn [a1_ (gw_ a.expr b.expr a2 b2), a1_ (gw_ a.thn b.thn a3 b3)] (by simp only [go_sem, seval, ae_]; rfl) ?_ ?_)
 ·first | trivial | simp
 refine .ret ⟨.inr rfl, ?_⟩
 exact Out.plain (by simp only [Tryz.results24]; rfl) (by simp only [av_, a3_, go_sem, seval, ae_] <;> (split <;> rfl)) (by simp only [a2_, go_sem, seval, ae_] <;> (simp [m4_])) (by simp only [go_sem, seval, ae_])
theorem t6_ (a b : Bl) (ha : smb a = true) (hb : smb b = true) : ACall En 28 [.ag (bC a), .ag (bC b)] [] [.b (m4_ a b)] [] := by
 obtain ⟨a1, a2, a3⟩ := ek_ ha
 obtain ⟨b1, b2, b3⟩ := ek_ hb
 refine al_ (fn := Tryz.f28) [] Tryz.func28 rfl rfl (by simp) fun C => ?_
 rw [aw_]
 simp only [Tryz.ntmps28, T7_, List.length_nil, Nat.reduceAdd, Nat.reduceSub, List.replicate_succ, List.replicate_zero, List.cons_append, List.nil_append, bo_]
 refine .seq (.rgn [] (by simp only [go_sem, seval, ae_]; rfl) ?_ ?_)
 ·first | trivial | simp
 refine .seq (.rgn [a1_ (ij_ a.expr b.expr a2 b2), a1_ (ij_ a.thn b.thn a3 b3)] (by simp only [go_sem, seval, ae_]; rfl) ?_ ?_)
 ·first | trivial | simp
 refine .ret ⟨.inr rfl, ?_⟩
 exact Out.plain (by simp only [Tryz.results28]; rfl) (by simp only [av_, a3_, go_sem, seval, ae_] <;> (split <;> rfl)) (by simp only [a2_, go_sem, seval, ae_] <;> (simp [m4_])) (by simp only [go_sem, seval, ae_])
end
section
set_option maxRecDepth 100000
set_option maxHeartbeats 4000000
theorem abq_ : smb B0 = true := by decide
end
section
set_option maxRecDepth 100000
set_option maxHeartbeats 4000000
end
end Go.Proofs.YtpikbndepapbhabGreatDoor
