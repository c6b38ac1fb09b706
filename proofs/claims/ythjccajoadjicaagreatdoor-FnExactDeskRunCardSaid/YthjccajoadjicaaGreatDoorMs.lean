/- What the exact laws do with expressions: size, copies, sameness. Conditions: none. -/
import Derived.Test.YthjccajoadjicaaGreatDoorMr
set_option linter.unusedVariables false
set_option linter.unusedSimpArgs false
set_option maxRecDepth 100000
set_option maxHeartbeats 8000000
namespace Go.Proofs.YthjccajoadjicaaGreatDoor
section
def z4:List V:=[.i .i64 0,.i .i64 0,.s [],.sl true []]
end
section
end
section
open Go.ChangeShapes Go.WideShapes Go.ChangeAt Go.RowKit
section
variable {H:Type} {enc:TypeId × Value→H} {P:Program} {W:World}
def Opn (enc:TypeId × Value→H) (P:Program) (W:World) (fuel:Nat) (t:TypeId) (Q:List V→Prop):Prop:=
 ∀cs x,DataW.trod enc P W 0 (fun _=>true) true fuel t cs=some x→∃vs,Q vs∧VRs (fun _=>none) (fun _=>True) W vs cs∧vs.all V.one=true
theorem axt_ {t:TypeId} {fuel:Nat} (ht:P.underlying t=some .string):Opn enc P W fuel t fun vs=>∃s:Str,vs=[.s s]∧s.length≤maxLen:=fun cs x h=>by
 obtain⟨s,rfl,_,hw⟩:=DataW.trod_string ht h
 refine⟨_,⟨s.data.toList,rfl,by rw[Array.length_toList];exact hw⟩,.cons (by simp only[VR]) .nil,rfl⟩
end
section
variable {H:Type} {enc:TypeId × Value→H} {W:World}
theorem ayf_ {r:Reach} {base:Nat} {v0:Value} {d0:DataW H} {p:List MemPlace} (hv:Value.okWide Tryz.prog W r base 9 v0) (h0:DataW.Trod enc Tryz.prog W 0 (fun _=>true) true 9 v0 d0 p) :
  ∃b:Str,b.length≤9223372036854775807∧VR (fun _=>none) (fun _=>True) W (.s b) v0:=by
 obtain⟨fuel,h⟩:=h0
 obtain⟨_,⟨s,rfl,hs⟩,hr,_⟩:=axt_ (enc:=enc) (P:=Tryz.prog) (W:=W) Tryz.underlying9 _ _ h
 have hm:maxLen=9223372036854775807:=by decide
 obtain⟨x,rfl⟩:=okWide_string Tryz.underlying9 hv
 refine⟨s,by omega,?_⟩
 simpa[Value.cells,VRs]using hr
end
end
end Go.Proofs.YthjccajoadjicaaGreatDoor
