/- The law FnExactDeskRun: what it answers. Conditions: none. -/
import Derived.Test.YthjccajoadjicaaGreatDoorKr
set_option linter.unusedVariables false
set_option linter.unusedSimpArgs false
namespace Go.Proofs.YthjccajoadjicaaGreatDoor
set_option maxRecDepth 100000
set_option maxHeartbeats 8000000
theorem pg_ (s:Str) (hl:s.length≤9223372036854775807):ACall En 3 [.s s] [] [.b true] []:=by
 refine aa_ [] Tryz.func3 Tryz.ntmps3 fun C=>?_
 refine .seq (.rgo [] ?_ ?_)
 ·(first|trivial|(simp only[T4_]at h7;omega)|(simp;done))
 refine .seq (.seq (.rgo [] ?_ ?_))
 ·(first|trivial|(simp only[T4_]at h7;omega)|(simp;done))
 refine .cB (fun h7=>?_) (fun h7=>?_)
 ·refine .seq (.rgo [] ?_ ?_)
  ·(first|trivial|(simp only[T4_]at h7;omega)|(simp;done))
  refine .ret ⟨.inr rfl,?_⟩
  exact Out.pl (by simp only[Tryz.results3];rfl) (by simp only[ag_,go_sem,seval]<;>(rfl))
 ·refine .skip (.seq (.rgo [a4_ (s.length≤1048576) (fun h=>agp_ s (by omega))] ?_ ?_))
  ·(first|trivial|(simp only[T4_]at h7;omega)|(simp;done))
  refine .seq (.rgo [a4_ (s.length≤1048576) (fun h=>af7_ s (by omega))] ?_ ?_)
  ·(first|trivial|(simp only[T4_]at h7;omega)|(simp;done))
  refine .seq (.seq (.rgo [] ?_ ?_))
  ·(first|trivial|(simp only[T4_]at h7;omega)|(simp;done))
  refine .cB (fun h14=>?_) (fun h14=>?_)
  ·simp at h14
  ·refine .skip (.seq (.rgo [] ?_ ?_))
   ·(first|trivial|(simp only[T4_]at h7;omega)|(simp;done))
   refine .ret ⟨.inr rfl,?_⟩
   exact Out.pl (by simp only[Tryz.results3];rfl) (by simp only[ag_,go_sem,seval]<;>(rfl))
end Go.Proofs.YthjccajoadjicaaGreatDoor
