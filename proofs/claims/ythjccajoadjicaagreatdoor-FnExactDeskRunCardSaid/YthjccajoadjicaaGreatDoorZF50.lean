/- The law FnExactDeskRun: what it answers. Conditions: none. -/
import Derived.Test.YthjccajoadjicaaGreatDoorMr
set_option linter.unusedVariables false
set_option linter.unusedSimpArgs false
set_option maxRecDepth 100000
set_option maxHeartbeats 8000000
namespace Go.Proofs.YthjccajoadjicaaGreatDoor
theorem p9_ (s:Str) (hl:s.length≤9223372036854775807):ACall En 3 [.s s] [] [.b true] []:=by
 refine aa_ [] Tryz.func3 Tryz.ntmps3 fun C=>?_
 refine .seq (.rg [] ?_)
 refine .seq (.seq (.rg [] ?_))
 refine .cB (fun h7=>?_) fun h7=>?_
 ·refine .seq (.rg [] ?_)
  refine .ret ⟨.inr rfl,Out.pP Tryz.results3 ?_⟩;trivial
 refine .skip (.seq (.rgo [a0_ (s.length≤1048576) (fun h=>wr_ s (by omega))] ?_ ?_))
 ·((simp only[decide_eq_false_iff_not]at h7;omega))
 refine .seq (.rgo [a0_ (s.length≤1048576) (fun h=>i7_ s (by omega))] ?_ ?_)
 ·((simp only[decide_eq_false_iff_not]at h7;omega))
 refine .seq (.seq (.rg [] ?_))
 refine .cB (fun h14=>?_) fun h14=>?_
 ·simp at h14
 refine .skip (.seq (.rg [] ?_))
 refine .ret ⟨.inr rfl,Out.pP Tryz.results3 ?_⟩;trivial
end Go.Proofs.YthjccajoadjicaaGreatDoor
