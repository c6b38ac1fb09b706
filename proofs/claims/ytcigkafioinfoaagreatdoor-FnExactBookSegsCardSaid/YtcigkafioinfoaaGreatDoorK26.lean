/- What the program tells of a program's words, as a place of its own. Conditions: none. -/
import Derived.Test.YtcigkafioinfoaaGreatDoorK1
set_option linter.unusedVariables false
set_option linter.unusedSimpArgs false
namespace Go.Proofs.YtcigkafioinfoaaGreatDoor
section
set_option maxRecDepth 100000
set_option maxHeartbeats 4000000
theorem yd_ (l : List Sg) (hl : l.length < 1099511627776) : ACall En 102 [.ow 0 4 0 l.length] [⟨98, 4, sgR l⟩] [.ow 0 4 0 l.length] [⟨98, 4, sgR l⟩] := by
 refine al_ (fn := Tryz.f102) [0] Tryz.func102 rfl rfl (by simp) fun C => ?_
 rw [ay_]
 simp only [Tryz.ntmps102, T7_, List.length_nil, Nat.reduceAdd, Nat.reduceSub, List.replicate_succ, List.replicate_zero, List.cons_append, List.nil_append, bs_]
 refine .seq (.rgn [] (by simp only [go_sem, seval, aj_, ak_]; rfl) ?_ ?_)
 ·first | trivial | simp
 refine .seq (.rgn [] (by simp only [go_sem, seval, aj_, ak_]; rfl) ?_ ?_)
 ·first | trivial | simp
 refine .ret ⟨.inr rfl, ?_⟩
 exact Out.mem' (by simp only [Tryz.results102]; rfl) (by simp only [az_, bj_, go_sem, seval, aj_, ak_]) (by simp only [bg_, rns, rn, go_sem, seval, aj_, ak_] <;> (simp)) (by simp) rfl (by decide) (by simp only [go_sem, seval, aj_, ak_]) (by simp only [av_, go_sem, seval, aj_, ak_]) (by simp only [ao_, go_sem, seval, aj_, ak_] <;> (simp [ck_, aj_]))
end
end Go.Proofs.YtcigkafioinfoaaGreatDoor
