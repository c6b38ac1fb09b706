/- The desk: the program's lines of words. Conditions: none. -/
import Derived.Test.YthjccajoadjicaaGreatDoorKq
import Derived.Test.YthjccajoadjicaaGreatDoorKl
import Derived.Test.YthjccajoadjicaaGreatDoorKo
import Derived.Test.YthjccajoadjicaaGreatDoorKj
import Derived.Test.YthjccajoadjicaaGreatDoorKd
import Derived.Test.YthjccajoadjicaaGreatDoorRows
import Derived.Test.YthjccajoadjicaaGreatDoorKe
import Derived.WalkKit
import Derived.ProofKit
import Derived.OpenShut
import Derived.OpenVars
import Derived.Carry
import Derived.LaidMore
import Derived.Lib.LaidU8
import Derived.Shelf.Vars
import Derived.Deep.DeepHandedRow
import Derived.Deep.DeepWitnessRowRef
import Derived.Test.YthjccajoadjicaaGreatDoorKi
set_option linter.unusedVariables false
set_option linter.unusedSimpArgs false
namespace Go.Proofs.YthjccajoadjicaaGreatDoor
section
open Go.RowKit
set_option maxRecDepth 100000
set_option maxHeartbeats 8000000
theorem uu_ {s:Str} (h:bd_ s=true):kt_ s = .i .i64 (av_ s):=by unfold kt_;rw[if_pos h]
theorem n1 {n:Nat} (h:((n:Int)==1)=false):n≠1:=by rintro rfl;simp at h
theorem y1 {n:Nat} (h:((n:Int)==1)=true):n=1:=by simp at h;omega
theorem te_ (w:List Str) (k:Nat):((an_ w).take w.length).drop k=an_ (w.drop k):=by
 rw[T1_ (by rw[al_];exact Nat.le_refl _)];simp[an_,List.map_drop]
theorem sOne {w:List Str}:∀r∈an_ w,r.length=1:=fun r hr=>by obtain⟨_,_,rfl⟩:=List.mem_map.1 hr;rfl
theorem outT {x c:Str} {n:Nat}:((x==c)&&((n:Int)==2))=true↔(x=c∧n=2):=by
 rw[T5_,beq_iff_eq,beq_iff_eq];constructor<;>(rintro⟨a,b⟩;exact⟨a,by omega⟩)
theorem pkT {x c d:Str} {n:Nat}:(((x==c)||(x==d))&&((n:Int)==3))=true↔((x=c∨x=d)∧n=3):=by
 rw[T5_,Bool.or_eq_true,beq_iff_eq,beq_iff_eq,beq_iff_eq];constructor<;>(rintro⟨a,b⟩;exact⟨a,by omega⟩)
theorem bF {t:Bool} (h:t=false):¬t=true:=by rw[h];decide
attribute [local go_sem] at_ bm_ a6_ bl_ al_ aq_ kj_ x2_ u1_ ai1_ in
theorem axb_ (b:List Pg) (w:List Str) (hb:bq_ b=true) (hw:j7_ w≤100000) (h0:0<w.length):ACall En 18 [.pt 0 1 0 0,.sl false (an_ w)] (dk b) [.s (b8_ b w).2] (dk (b8_ b w).1):=by
 obtain⟨hs,hl0⟩:=pf_ hb
 have hl:b.length≤2000000:=by omega
 have h1:=gv_ w
 have h2:=fun k=>rl_ w k
 have hv:bd_ (w.getD 1 [])=true→av_ (w.getD 1 [])≤1000000:=fun h=>(by unfold bd_ at h;simp only[T5_,T3_]at h;exact h.1)
 have hg:=fun k=>w6_ w k
 refine aa_ [0] Tryz.func18 Tryz.ntmps18 fun C=>?_
 refine .seq (.rgo [] ?_ ?_)
 ·(first|trivial|(simp;done)|(simp;omega))
 refine .seq (.seq (.rgo [] ?_ ?_ (h:=by simp only[go_sem,seval,aw_ h0];rfl)))
 ·(first|trivial|(simp;done)|(simp;omega))
 refine .cB (fun h12=>?_) (fun h12=>?_)
 ·refine .seq (.rgDo [ab_ (gs_ (w.drop 1) (by have:=h2 1;omega) (by rw[List.length_drop];omega)),ab_ (t9_ b b.length (ax_ (w.drop 1)) hs hl (by omega) (by omega) (by have:=h2 1;omega)),bf_ [0] [] (po_ b (chg b b.length 0 [ax_ (w.drop 1)]) (bc_ b b.length 0 [ax_ (w.drop 1)]))] ?_ ?_)
  ·and_intros<;>first|omega|exact .inr sOne|decide|(rw[te_];exact af_ _)
  refine .ret ⟨.inr rfl,?_⟩
  exact Out.mm (by simp only[Tryz.results18];rfl) (by simp only[ag_,rns,rn,go_sem,seval]<;>(unfold b8_;rw[if_pos (by simpa using h12)])) (by simp only[at_,go_sem,seval]<;>(unfold b8_;rw[if_pos (by simpa using h12)]))
 ·refine .skip (.seq (.seq (.rgo [] ?_ ?_)))
  ·(first|trivial|(simp;done)|(simp;omega))
  refine .cB (fun h32=>?_) (fun h32=>?_)
  ·refine .seq (.rgo [bf_ [0] [] (axn_ b (w.getD 0 []) hb)] ?_ ?_ (h:=by simp only[go_sem,seval,aw_ h0];rfl))
   ·(first|trivial|(simp;done)|(simp;omega))
   refine .ret ⟨.inr rfl,?_⟩
   exact Out.mm (by simp only[Tryz.results18];rfl) (by simp only[ag_,rns,rn,go_sem,seval]<;>(unfold b8_;rw[if_neg (by simpa using h12),if_pos (y1 h32)])) (by simp only[at_,go_sem,seval]<;>(unfold b8_;rw[if_neg (by simpa using h12),if_pos (y1 h32)]))
  ·refine .skip (.seq (.rgo [ab_ (n9_ (w.getD 1 []) (by have:=hg 1;omega))] ?_ ?_ (h:=by simp only[go_sem,seval,aw_ (show 1<w.length by have:=n1 h32;omega)];rfl)))
   ·have:=n1 h32;omega
   refine .seq (.block (.seq (.rgo [] ?_ ?_)))
   ·(first|trivial|(simp;done)|(simp;omega))
   refine .cB (fun h45=>?_) (fun h45=>?_)
   ·refine .seq (.rgo [] ?_ ?_)
    ·(first|trivial|(simp;done)|(simp;omega))
    refine .ret ⟨.inr rfl,?_⟩
    exact Out.mm (by simp only[Tryz.results18];rfl) (by simp only[ag_,rns,rn,go_sem,seval]<;>(unfold b8_;rw[if_neg (by simpa using h12),if_neg (n1 h32),if_pos (by simpa using h45)];rfl)) (by simp only[at_,go_sem,seval]<;>(unfold b8_;rw[if_neg (by simpa using h12),if_neg (n1 h32),if_pos (by simpa using h45)]))
   ·refine .seq (.rgo [] ?_ ?_ (h:=by simp only[go_sem,seval,aw_ h0];rfl))
    ·(first|trivial|(simp;done)|(simp;omega))
    refine .cB (fun h48=>?_) (fun h48=>?_)
    ·refine .seq (.rgDo [ab_ (gs_ (w.drop 2) (by have:=h2 2;omega) (by rw[List.length_drop];omega)),a4_ (bd_ (w.getD 1 [])=true) (fun h=>t9_ b (av_ (w.getD 1 [])) (ax_ (w.drop 2)) hs hl (by omega) (by have:=hv h;omega) (by have:=h2 2;omega)),bf_ [0] [] (po_ b (chg b (av_ (w.getD 1 [])) 0 [ax_ (w.drop 2)]) (bc_ b (av_ (w.getD 1 [])) 0 [ax_ (w.drop 2)]))] ?_ ?_ (h:=by simp only[go_sem,seval,uu_ (show bd_ (w.getD 1 [])=true by simpa using h45)];rfl))
     ·have:=n1 h32;and_intros<;>first|omega|exact .inr sOne|decide|(rw[te_];exact af_ _)|simpa using h45
     refine .ret ⟨.inr rfl,?_⟩
     exact Out.mm (by simp only[Tryz.results18];rfl) (by simp only[ag_,rns,rn,go_sem,seval]<;>(unfold b8_;rw[if_neg (by simpa using h12),if_neg (n1 h32),if_neg (by simpa using h45),if_pos (by simpa using h48)])) (by simp only[at_,go_sem,seval]<;>(unfold b8_;rw[if_neg (by simpa using h12),if_neg (n1 h32),if_neg (by simpa using h45),if_pos (by simpa using h48)]))
    ·refine .seq (.rgo [] ?_ ?_ (h:=by simp only[go_sem,seval,aw_ h0];rfl))
     ·(first|trivial|(simp;done)|(simp;omega))
     refine .cB (fun h66=>?_) (fun h66=>?_)
     ·refine .seq (.rgDo [ab_ (gs_ (w.drop 2) (by have:=h2 2;omega) (by rw[List.length_drop];omega)),a4_ (bd_ (w.getD 1 [])=true) (fun h=>abf_ b (av_ (w.getD 1 [])) (ax_ (w.drop 2)) hs hl (by omega) (by have:=hv h;omega) (by have:=h2 2;omega)),bf_ [0] [] (po_ b (chg b (av_ (w.getD 1 [])) 1 [ax_ (w.drop 2)]) (bc_ b (av_ (w.getD 1 [])) 1 [ax_ (w.drop 2)]))] ?_ ?_ (h:=by simp only[go_sem,seval,uu_ (show bd_ (w.getD 1 [])=true by simpa using h45)];rfl))
      ·have:=n1 h32;and_intros<;>first|omega|exact .inr sOne|decide|(rw[te_];exact af_ _)|simpa using h45
      refine .ret ⟨.inr rfl,?_⟩
      exact Out.mm (by simp only[Tryz.results18];rfl) (by simp only[ag_,rns,rn,go_sem,seval]<;>(unfold b8_;rw[if_neg (by simpa using h12),if_neg (n1 h32),if_neg (by simpa using h45),if_neg (by simpa using h48),if_pos (by simpa using h66)])) (by simp only[at_,go_sem,seval]<;>(unfold b8_;rw[if_neg (by simpa using h12),if_neg (n1 h32),if_neg (by simpa using h45),if_neg (by simpa using h48),if_pos (by simpa using h66)]))
     ·refine .seq (.rgo [] ?_ ?_ (h:=by simp only[go_sem,seval,aw_ h0];rfl))
      ·(first|trivial|(simp;done)|(simp;omega))
      refine .cB (fun h84=>?_) (fun h84=>?_)
      ·refine .seq (.rgo [a4_ (bd_ (w.getD 1 [])=true) (fun h=>ach_ b (av_ (w.getD 1 [])) hs hl (by omega) (by have:=hv h;omega)),bf_ [0] [] (po_ b (chg b (av_ (w.getD 1 [])) 1 []) (bc_ b (av_ (w.getD 1 [])) 1 []))] ?_ ?_ (h:=by simp only[go_sem,seval,uu_ (show bd_ (w.getD 1 [])=true by simpa using h45)];rfl))
       ·and_intros<;>first|omega|exact .inr sOne|decide|(rw[te_];exact af_ _)|simpa using h45
       refine .ret ⟨.inr rfl,?_⟩
       exact Out.mm (by simp only[Tryz.results18];rfl) (by simp only[ag_,rns,rn,go_sem,seval]<;>(unfold b8_;rw[if_neg (by simpa using h12),if_neg (n1 h32),if_neg (by simpa using h45),if_neg (by simpa using h48),if_neg (by simpa using h66),if_pos (outT.1 h84)])) (by simp only[at_,go_sem,seval]<;>(unfold b8_;rw[if_neg (by simpa using h12),if_neg (n1 h32),if_neg (by simpa using h45),if_neg (by simpa using h48),if_neg (by simpa using h66),if_pos (outT.1 h84)]))
      ·refine .seq (.rgo [] ?_ ?_ (h:=by simp only[go_sem,seval,aw_ h0];rfl))
       ·exact⟨⟨by omega,fun h=>⟨h,by omega⟩⟩,fun h=>by rw[h];rfl⟩
       refine .cB (fun h104=>?_) (fun h104=>?_)
       ·refine .seq (.rgo [ab_ (n9_ (w.getD 2 []) (by have:=hg 2;omega))] ?_ ?_ (h:=by simp only[go_sem,seval,aw_ (show 2<w.length by have:=(pkT.1 h104).2;omega)];rfl))
        ·have:=(pkT.1 h104).2;omega
        refine .seq (.rgo [] ?_ ?_)
        ·(first|trivial|(simp;done)|(simp;omega))
        refine .cB (fun h127=>?_) (fun h127=>?_)
        ·refine .seq (.rgo [bf_ [0] [] (avo_ b (w.getD 0 []) (av_ (w.getD 1 [])) (av_ (w.getD 2 [])) hs hl)] ?_ ?_ (h:=by simp only[go_sem,seval,aw_ h0,uu_ (show bd_ (w.getD 1 [])=true by simpa using h45),uu_ h127];rfl))
         ·and_intros<;>first|omega|decide|rfl
         refine .ret ⟨.inr rfl,?_⟩
         exact Out.mm (by simp only[Tryz.results18];rfl) (by simp only[ag_,rns,rn,go_sem,seval]<;>(unfold b8_;rw[if_neg (by simpa using h12),if_neg (n1 h32),if_neg (by simpa using h45),if_neg (by simpa using h48),if_neg (by simpa using h66),if_neg (fun q=>bF h84 (outT.2 q)),if_pos (let q:=pkT.1 h104;⟨q.1,q.2,h127⟩)])) (by simp only[at_,go_sem,seval]<;>(unfold b8_;rw[if_neg (by simpa using h12),if_neg (n1 h32),if_neg (by simpa using h45),if_neg (by simpa using h48),if_neg (by simpa using h66),if_neg (fun q=>bF h84 (outT.2 q)),if_pos (let q:=pkT.1 h104;⟨q.1,q.2,h127⟩)]))
        ·refine .skip (.seq (.rgo [] ?_ ?_))
         ·(first|trivial|(simp;done)|(simp;omega))
         refine .ret ⟨.inr rfl,?_⟩
         exact Out.mm (by simp only[Tryz.results18];rfl) (by simp only[ag_,rns,rn,go_sem,seval]<;>(unfold b8_;rw[if_neg (by simpa using h12),if_neg (n1 h32),if_neg (by simpa using h45),if_neg (by simpa using h48),if_neg (by simpa using h66),if_neg (fun q=>bF h84 (outT.2 q)),if_neg (fun q=>bF h127 q.2.2)];rfl)) (by simp only[at_,go_sem,seval]<;>(unfold b8_;rw[if_neg (by simpa using h12),if_neg (n1 h32),if_neg (by simpa using h45),if_neg (by simpa using h48),if_neg (by simpa using h66),if_neg (fun q=>bF h84 (outT.2 q)),if_neg (fun q=>bF h127 q.2.2)]))
       ·refine .skip (.seq (.rgo [] ?_ ?_))
        ·(first|trivial|(simp;done)|(simp;omega))
        refine .ret ⟨.inr rfl,?_⟩
        exact Out.mm (by simp only[Tryz.results18];rfl) (by simp only[ag_,rns,rn,go_sem,seval]<;>(unfold b8_;rw[if_neg (by simpa using h12),if_neg (n1 h32),if_neg (by simpa using h45),if_neg (by simpa using h48),if_neg (by simpa using h66),if_neg (fun q=>bF h84 (outT.2 q)),if_neg (fun q=>bF h104 (pkT.2 ⟨q.1,q.2.1⟩))];rfl)) (by simp only[at_,go_sem,seval]<;>(unfold b8_;rw[if_neg (by simpa using h12),if_neg (n1 h32),if_neg (by simpa using h45),if_neg (by simpa using h48),if_neg (by simpa using h66),if_neg (fun q=>bF h84 (outT.2 q)),if_neg (fun q=>bF h104 (pkT.2 ⟨q.1,q.2.1⟩))]))
end
section
open Go.RowKit
set_option maxRecDepth 100000
theorem afl_ {E:Env} {f:FuncId} {fn:Func} {c:Code} {vs rs:List V} {b:Blk} (hf:E.P.funcs[f]? = some fn) (hb:fn.body=some c) (hname:(fn.name== "runtime.NumGoroutine")=false)
  (h:∀S w (xs:Array Value),VRs (fun _=>none) S w vs xs.toList→(∃B,E.H B w∧B≤w.heap.size)→
   Calls E.P f xs w fun e w'=>∃ys g arr zs,e = .returned (f2_ ys)∧Below w.heap.size w w'∧w.heap.size≤g∧w'.heap[g]? = some (.cells arr b.T (0,0))∧VRr (fun i=>if i=0 then some (some g)else none) (fun k=>(S k∨w.heap.size≤k)∧k≠g) w' b.z b.rows zs∧arr.toList.take zs.length=zs∧0<b.z∧
    VRs (fun i=>if i=0 then some (some g)else none) (fun k=>(S k∨w.heap.size≤k)∧k≠g) w' rs ys):ACall E f vs [] rs [b]:=by
 refine⟨fun args w=>?_,fun φ S w args hp=>?_⟩
 ·simp[callFunc,hf,hb]
  simpa using hname
 ·have hφ:φ=fun _=>none:=by
   funext l
   cases hh:φ l with
   |none=>rfl
   |some x=>have:=hp.low l (by rw[hh];simp);simp at this
  subst hφ
  obtain⟨B,b1,b2,_⟩:=hp.lad
  refine(h S w args hp.args ⟨B,b1,b2⟩).mono fun e w' ⟨ys,g,arr,zs,h1,h2,h3,h4,h5,h6,h7,h8⟩=>⟨ys,fun i=>if i=0 then some (some g)else none,h1,?_⟩
  have hk:KeepsW (fun i=>if i=0 then some (some g)else none) (fun i=>if i=0 then some (some g)else none) (fun k=>(S k∨w.heap.size≤k)∧k≠g) (SOf (fun i=>if i=0 then some (some g)else none) S w [b]) w' w':=
   ⟨fun _ _ h=>h,fun k hk _=>⟨⟨hk.1,fun l c hc hl=>by
    simp only[lh_]at hc
    cases l with
    |zero=>simp only[if_true,Option.some.injEq]at hl;exact hk.2 hl.symm
    |succ l=>simp at hl⟩,rfl⟩,Nat.le_refl _,fun _ _ h=>h⟩
  refine⟨fun i hi=>by simp at hi,h8.keep hk,fun i c hc=>?_,fun i k _ hk=>?_,fun i j k hi hj _ _=>by simp at hi hj;omega,FrameW.below h2 _⟩
  ·cases i with
   |succ i=>simp at hc
   |zero=>
    simp only[List.getElem?_cons_zero,Option.some.injEq]at hc
    subst hc
    exact .inr (.inl ⟨g,arr,zs,by simp,h4,h5.keep hk,h6,h7⟩)
  ·split at hk
   ·simp only[Option.some.injEq]at hk;omega
   ·cases hk
theorem alb_ (d:UInt8) (s:Str) (hs:s.length≤1000000) {S:Nat→Prop} {w:World} {xs:Array Value} (hx:VRs (fun _=>none) S w [.s s,.s [d]] xs.toList) (hB:∃B,En.H B w∧B≤w.heap.size) :
  Calls En.P 13 xs w fun e w'=>∃g,e = .returned (.slice (some ⟨g,0,none⟩) (cp_ d s).length (cp_ d s).length)∧Below w.heap.size w w'∧w.heap.size≤g∧w'.heap[g]? = some (.cells ((cp_ d s).map fun s=>.string ⟨s.toArray⟩).toArray 9 (0,0)):=by
 simp only[VRs,VR]at hx
 obtain⟨x,r,e1,rfl,y,q,e2,rfl,rfl⟩:=hx
 subst e2
 obtain rfl:xs=#[.string ⟨s.toArray⟩,.string ⟨[d].toArray⟩]:=by apply Array.ext';simpa using e1
 obtain⟨B,hB,_⟩:=hB
 obtain⟨m,hm⟩:=hB.maxl
 have hk:(Lib.splitB ⟨[d].toArray⟩ 0 (Lib.countB ⟨s.toArray⟩ ⟨[d].toArray⟩) ⟨s.toArray⟩).map (·.data.toList)=cp_ d s:=by
  rw[Lib.splitB_data]
  exact x9_ d s.length s (Nat.le_refl _)
 have hv:(Lib.splitB ⟨[d].toArray⟩ 0 (Lib.countB ⟨s.toArray⟩ ⟨[d].toArray⟩) ⟨s.toArray⟩).map Value.string=(cp_ d s).map fun s=>Value.string ⟨s.toArray⟩:=by
  rw[←hk,List.map_map]
  exact List.map_congr_left fun b _=>by cases b;simp
 have hl:(cp_ d s).length=Lib.countB ⟨s.toArray⟩ ⟨[d].toArray⟩+1:=by
  rw[←hk,List.length_map]
  exact Lib.splitB_all _ (by simp[ByteArray.size]) 0 _ _ rfl
 refine(Tryz.strings_Split ⟨s.toArray⟩ ⟨[d].toArray⟩ m w (by simp[ByteArray.size];omega) hm (by simp[ByteArray.size])).mono ?_
 rintro e w' ⟨rfl,rfl⟩
 rw[hv,←hl]
 exact⟨w.heap.size,rfl,Joins.below_alloc1 _ _,Nat.le_refl _,heap_alloc_new w _⟩
theorem ad7_ (d:UInt8) (s:Str):(cp_ d s).length≤s.length+1:=by rw[←j5_ d s];exact gv_ _
theorem adj_ (d:UInt8) (s:Str) (hs:s.length≤1000000):ACall En 13 [.s s,.s [d]] [] [.ow 0 1 0 (cp_ d s).length] [⟨9,1,an_ (cp_ d s)⟩]:=by
 refine afl_ (fn:=Tryz.f13) Tryz.func13 rfl rfl fun S w xs hx hB=>?_
 refine(alb_ d s hs hx hB).mono ?_
 rintro e w' ⟨g,rfl,h2,h3,h4⟩
 have hc:=ad7_ d s
 refine⟨[_],g,_,(cp_ d s).map fun s=>.string ⟨s.toArray⟩,rfl,h2,h3,h4,abb_ _,T1_ (by simp),Nat.one_pos,.cons ?_ .nil⟩
 simp only[VR]
 exact⟨_,_,rfl,Nat.le_refl _,by unfold maxLen;omega,.inr ⟨g,9,(cp_ d s).length,rfl,by simp,by simp[World.shape?,h4],by simp⟩⟩
theorem aqa_ (d:UInt8) (s:Str) (hs:s.length≤1000000):ACall En 13 [.s s,.s [d]] [] [.sl false (an_ (cp_ d s))] []:=
 ACall.frz1 (adj_ d s hs) (by simp[er_,frz,al_,T1_])
end
section
open Go.RowKit
set_option maxRecDepth 100000
set_option maxHeartbeats 8000000
theorem aka_ (s:Str):ACall En 15 [.s s] [] [.b (s==[])] []:=by
 refine aa_ [] Tryz.func15 Tryz.ntmps15 fun C=>?_
 refine .seq (.rg [] ?_)
 refine .seq (.rg [] ?_)
 refine .ret ⟨.inr rfl,?_⟩
 exact Out.pl (by simp only[Tryz.results15];rfl) (by simp only[ag_,go_sem,seval]<;>(rfl))
def fil (l:List Str):List Str:=l.filter fun w=>!(w==[])
attribute [local go_sem] al_ aq_ in
theorem aqn_ (l:List Str) (hl:l.length≤1000000):ACall En 37 [.sl false (an_ l),.fn (.func 15) [] []] [] [.i .i64 (nz_ (·==[]) l)] []:=by
 refine aa_ [] Tryz.func37 Tryz.ntmps37 fun C=>?_
 refine .seq (.rgo [] ?_ ?_)
 ·(first|trivial|(simp;done)|(simp at h9;simp;omega))
 refine .seq (.seq (.rgo [] ?_ ?_))
 ·(first|trivial|(simp;done)|(simp at h9;simp;omega))
 refine .block (.loopK (fun k:Nat=>⟨[.sl false (an_ l),.fn (.func 15) [] [],.no,.no,.no,.no,.no,.i .i64 l.length,.i .i64 k,.no,.no,.no,.no,.no,.no,.no,.no,.no,.no],ak_ [],us []⟩) (fun k:Nat=>k≤l.length∧(l.take k).any (·==[])=false) (fun k:Nat=>l.length - k) (0) ?_ ?_ (fun k hI=>?_))
 ·simp
 ·refine Can.wh ?_;first|trivial|((try simp))
 refine .seq (.rgo [] ?_ ?_)
 ·(first|trivial|(simp;done)|(simp at h9;simp;omega))
 refine .seq (.cB (fun h9=>?_) (fun h9=>?_))
 ·refine .skip (.seq (.block (.seq (.rgo [] ?_ ?_))))
  ·(first|trivial|(simp;done)|(simp at h9;simp;omega))
  refine .seq (.rgo [ab_ (aka_ (l.getD k []))] ?_ ?_ (h:=by simp only[go_sem,seval,aw_ (show k<l.length by simpa using h9)];rfl))
  ·(first|trivial|(simp;done)|(simp at h9;simp;omega))
  refine .cB (fun h16=>?_) (fun h16=>?_)
  ·refine .seq (.rgo [] ?_ ?_)
   ·(first|trivial|(simp;done)|(simp at h9;simp;omega))
   refine .ret ⟨.inr rfl,?_⟩
   exact Out.pl (by simp only[Tryz.results37];rfl) (by simp only[ag_,go_sem,seval]<;>(simp at h9;rw[o6_ (d:=[]) h9 hI.2 h16]))
  ·refine .skip (.rgo [] ?_ ?_)
   ·(first|trivial|(simp;done)|(simp at h9;simp;omega))
   refine Exists.intro (k+1) ⟨?_,?_,?_⟩
   ·simp at h9;refine⟨by omega,?_⟩;rw[i0_ (d:=[]) h9,hI.2,h16];rfl
   ·simp at h9;omega
   refine Can.wh ?_;first|trivial|(rw[aj_ (by simp at h9;omega) (by simp at h9;omega)];(try simp))
 ·refine .exit (.seq (.rgo [] ?_ ?_))
  ·(first|trivial|(simp;done)|(simp at h9;simp;omega))
  refine .ret ⟨.inr rfl,?_⟩
  exact Out.pl (by simp only[Tryz.results37];rfl) (by simp only[ag_,go_sem,seval]<;>(simp at h9;have h0:=hI.2;rw[T1_ h9]at h0;rw[it_ h0]))
theorem t6_ {l:List Str} (h:l.any (·==[])=false):fil l=l:=by
 refine List.filter_eq_self.2 fun w hw=>?_
 have:=List.any_eq_false.1 h w hw
 simpa using this
theorem axa_ (l:List Str) (k:Nat):(fil (l.take k)).length≤k:=Nat.le_trans (List.length_filter_le _ _) (by rw[List.length_take];omega)
def DelI (l:List Str) (j:Nat) (L:List Str):Prop:=L.length=l.length∧j≤l.length∧(fil (l.take j)).length<j∧L.take (fil (l.take j)).length=fil (l.take j)∧L.drop j=l.drop j
theorem ae3_ {l:List Str} {k:Nat} (hk:k<l.length) (ha:(l.take k).any (·==[])=false) (h:l.getD k []=[]):DelI l (k+1) l∧(fil (l.take (k+1))).length=k:=by
 have e:fil (l.take (k+1))=l.take k:=by
  unfold fil;rw[gr_ hk,if_pos h,List.append_nil];exact t6_ ha
 have hl:(fil (l.take (k+1))).length=k:=by rw[e,List.length_take];omega
 exact⟨⟨rfl,by omega,by omega,by rw[hl,e],rfl⟩,hl⟩
theorem awu_ {l L:List Str} {j:Nat} (h:DelI l j L) (hj:j<l.length):L.getD j []=l.getD j []:=by
 have:=congrArg (fun x:List Str=>x.getD 0 []) h.2.2.2.2
 simpa[T8_]using this
theorem oj_ {l L:List Str} {j:Nat} (h:DelI l j L) (hj:j<l.length) (he:l.getD j []=[]):DelI l (j+1) L∧fil (l.take (j+1))=fil (l.take j):=by
 obtain⟨h1,h2,h3,h4,h5⟩:=h
 have e:fil (l.take (j+1))=fil (l.take j):=by unfold fil;rw[gr_ hj,if_pos he,List.append_nil]
 refine⟨⟨h1,by omega,by rw[e];omega,by rw[e];exact h4,?_⟩,e⟩
 rw[←List.drop_drop,h5,List.drop_drop]
theorem tq_ {l L:List Str} {j:Nat} (h:DelI l j L) (hj:j<l.length) (he:l.getD j []≠[]):DelI l (j+1) (L.set (fil (l.take j)).length (l.getD j []))∧(fil (l.take (j+1))).length=(fil (l.take j)).length+1:=by
 obtain⟨h1,h2,h3,h4,h5⟩:=h
 have e:fil (l.take (j+1))=fil (l.take j)++[l.getD j []]:=by unfold fil;rw[gr_ hj,if_neg he]
 have hl:(fil (l.take (j+1))).length=(fil (l.take j)).length+1:=by rw[e];simp
 refine⟨⟨by simp[h1],by omega,by omega,?_,?_⟩,hl⟩
 ·rw[hl,e,List.take_add_one,List.getElem?_set_self (by omega),List.take_set_of_le (Nat.le_refl _),h4];rfl
 ·rw[List.drop_set_of_lt (by omega),←List.drop_drop,h5,List.drop_drop]
theorem yd_ {l:List Str} (h:nz_ (·==[]) l≠ -1):∃k:Nat,k<l.length∧nz_ (·==[]) l=k∧(l.take k).any (·==[])=false∧l.getD k []=[]:=by
 have ha:l.any (·==[])=true:=by
  cases q:l.any (·==[])with
  |true=>rfl
  |false=>exact absurd (it_ q) h
 have hx:∃x,x∈l∧(x==[])=true:=List.any_eq_true.1 ha
 have hk:=List.findIdx_lt_length_of_exists hx
 refine⟨l.findIdx (·==[]),hk,by unfold nz_;rw[if_pos ha],List.any_eq_false.2 fun x hx=>?_,?_⟩
 ·obtain⟨j,hj,rfl⟩:=List.getElem_of_mem hx
  rw[List.length_take]at hj
  rw[List.getElem_take]
  have:=List.not_of_lt_findIdx (show j<l.findIdx (·==[]) by omega)
  simpa using this
 ·have:=List.findIdx_getElem (w:=hk)
  rw[T8_,T6_ hk]
  simpa using this
theorem afb_ (l:List Str) (k:Nat) (s:Str):an_ (l.set k s)=(an_ l).set k [.s s]:=by simp[an_,List.map_set]
attribute [local go_sem] at_ bm_ al_ aq_ app_ in
theorem zl_ (l:List Str) (hl:l.length≤1000000):ACall En 14 [.ow 0 1 0 l.length,.fn (.func 15) [] []] [⟨9,1,an_ l⟩] [.ow 0 1 0 (fil l).length] [⟨9,1,an_ (fil l++List.replicate (l.length - (fil l).length) [])⟩]:=by
 have hle:=axa_ l
 refine aa_ [0] Tryz.func14 Tryz.ntmps14 fun C=>?_
 refine .seq (.rg [] ?_)
 refine .seq (.rgo [kh_ (aqn_ l hl)] ?_ ?_)
 ·simp[T1_,al_,af_]
 refine .seq (.seq (.rg [] ?_))
 refine .cB (fun h12=>?_) (fun h12=>?_)
 ·refine .seq (.rg [] ?_)
  refine .ret ⟨.inr rfl,?_⟩
  exact Out.mm (by simp only[Tryz.results14];rfl) (by simp only[ag_,rns,rn,go_sem,seval]<;>(rw[beq_iff_eq]at h12;rw[t6_ (by cases q:l.any (·==[]);rfl;(have:=m6_ (·==[]) l;rw[q,h12]at this;cases this))])) (by simp only[at_,go_sem,seval]<;>(rw[beq_iff_eq]at h12;rw[t6_ (by cases q:l.any (·==[]);rfl;(have:=m6_ (·==[]) l;rw[q,h12]at this;cases this))];simp))
 ·refine .skip (.seq (.seq (.rg [] ?_)))
  refine .block (.loopK (fun q:Nat × List Str=>⟨[.ow 0 1 0 l.length,.fn (.func 15) [] [],.no,.no,.no,.i .i64 (fil (l.take q.1)).length,.i .i64 q.1,.no,.no,.no,.no,.no,.no,.no,.no,.no,.no,.no,.no,.no,.no,.no,.no,.no,.no,.no,.no,.no,.no,.no,.no,.no,.no,.no,.no,.no,.no,.no,.no,.no,.no,.no],ak_ [(0,⟨9,1,an_ q.2⟩)],us []⟩) (fun q:Nat × List Str=>DelI l q.1 q.2) (fun q:Nat × List Str=>l.length - q.1) (((nz_ (·==[]) l).toNat+1,l)) ?_ ?_ (fun q hI=>?_))
  ·(obtain⟨k,k1,k2,k3,k4⟩:=yd_ (l:=l) (by simpa using h12));rw[k2];exact(ae3_ k1 k3 k4).1
  ·refine Can.wh ?_;first|trivial|((obtain⟨k,k1,k2,k3,k4⟩:=yd_ (l:=l) (by simpa using h12));rw[k2,aj_ (by omega) (by omega)];exact⟨by rw[show((k:Int)).toNat=k from rfl,(ae3_ k1 k3 k4).2],rfl⟩)
  refine .seq (.seq (.rg [] ?_))
  refine .cB (fun h19=>?_) (fun h19=>?_)
  ·refine .skip (.seqJ (fun u:List Str=>⟨[.ow 0 1 0 l.length,.fn (.func 15) [] [],.no,.no,.no,.i .i64 (fil (l.take (q.1+1))).length,.i .i64 q.1,.no,.no,.no,.no,.no,.no,.no,.no,.no,.no,.no,.no,.no,.no,.no,.no,.no,.no,.no,.no,.no,.no,.no,.no,.no,.no,.no,.no,.no,.no,.no,.no,.no,.no,.no],ak_ [(0,⟨9,1,an_ u⟩)],us []⟩) (fun u:List Str=>DelI l (q.1+1) u) ?_ (fun u hJ=>?_))
   ·refine .block (.seq (.rgo [] ?_ ?_ (h:=by simp only[go_sem,seval,aw_ (show q.1<q.2.length by simp at h19;have:=hI.1;omega),awu_ hI (by simpa using h19)];rfl)))
    ·simp at h19;have:=hI.1;simp;omega
    refine .seq (.rg [ab_ (aka_ (l.getD q.1 []))] ?_)
    refine .cB (fun h29=>?_) (fun h29=>?_)
    ·refine .seq (.rgo [] ?_ ?_)
     ·simp at h19;have:=hI.1;have:=hI.2.2.1;simp;omega
     refine .rg [] ?_
     refine Exists.intro (q.2.set (fil (l.take q.1)).length (l.getD q.1 [])) ⟨?_,?_⟩
     ·first|exact(tq_ hI (by simpa using h19) (by simpa using h29)).1|exact(oj_ hI (by simpa using h19) (by simpa using h29)).1
     refine Can.wk ?_ ?_
     ·first|trivial|(first|(rw[(tq_ hI (by simpa using h19) (by simpa using h29)).2,aj_ (by omega) (by have:=hI.2.2.1;simp at h19;omega)];rfl)|(rw[(oj_ hI (by simpa using h19) (by simpa using h29)).2];done))
     ·first|trivial|(first|(rw[afb_,aw_ (show(fil (l.take q.1)).length<q.2.length by have:=hI.1;have:=hI.2.2.1;simp at h19;omega)];rfl))
    ·refine .skip ?_
     refine Exists.intro (q.2) ⟨?_,?_⟩
     ·first|exact(tq_ hI (by simpa using h19) (by simpa using h29)).1|exact(oj_ hI (by simpa using h19) (by simpa using h29)).1
     refine Can.wk ?_ ?_
     ·first|trivial|(first|(rw[(tq_ hI (by simpa using h19) (by simpa using h29)).2,aj_ (by omega) (by have:=hI.2.2.1;simp at h19;omega)];rfl)|(rw[(oj_ hI (by simpa using h19) (by simpa using h29)).2];done))
     ·first|trivial|(first|(rw[afb_,aw_ (show(fil (l.take q.1)).length<q.2.length by have:=hI.1;have:=hI.2.2.1;simp at h19;omega)];rfl))
   refine .rg [] ?_
   refine Exists.intro ((q.1+1,u)) ⟨?_,?_,?_⟩
   ·exact hJ
   ·simp at h19;dsimp only;omega
   refine Can.wh ?_;first|trivial|(rw[aj_ (by simp at h19;omega) (by simp at h19;omega)];rfl)
  ·refine .exit (.seq (.rgSo [0] [app_ En 9 0 1 (fil (l.take q.1)).length (l.length - (fil (l.take q.1)).length) [.s []] (an_ q.2)] ?_ ?_))
   ·simp only[T4_]at h19;have:=hI.1;have:=hI.2.1;have:=hI.2.2.1;exact⟨by omega,_,_,_,_,rfl,by simp only[go_sem,seval];rfl,rfl,by omega⟩
   refine .seq (.rgo [] ?_ ?_)
   ·have:=hI.2.1;have:=hI.2.2.1;simp;omega
   refine .ret ⟨.inr rfl,?_⟩
   exact Out.mm (by simp only[Tryz.results14];rfl) (by simp only[ag_,rns,rn,go_sem,seval]<;>(simp only[T4_]at h19;rw[T1_ (by omega)];rfl)) (by simp only[at_,go_sem,seval]<;>(simp only[T4_]at h19;have e:=hI.2.2.2.1;have e1:=hI.1;rw[List.take_of_length_le (l:=l) (by omega)]at e ⊢;rw[List.drop_of_length_le (by rw[al_];have:=hI.2.2.1;rw[List.take_of_length_le (l:=l) (by omega)]at this;omega),List.append_nil,b6_,←e];simp[an_,List.map_take]))
end
section
open Go.RowKit
set_option maxRecDepth 100000
set_option maxHeartbeats 8000000
theorem ayq_ (l:List Str) (n:Nat):(an_ l).take n=an_ (l.take n):=by simp[an_,List.map_take]
theorem ayr_ (l r:List Str):(fil l++r).take (fil l).length=fil l:=List.take_left
theorem axk_ (l r:List Str):((fil l).length≤(fil l++r).length)=True:=eq_true (by rw[T2_];omega)
theorem ax4_ (l:List Str):(l.length≤(fil l++List.replicate (l.length - (fil l).length) []).length)=True:=eq_true (by rw[T2_,List.length_replicate];omega)
theorem ayk_ (z n:Nat) (r:List (List V)):frz 32 z r (bA 14 n)=bA 14 n:=by cases n<;>rfl
theorem axp_ (z n:Nat) (r:List (List V)):frz 32 z r (bB 20 n)=bB 20 n:=by cases n<;>rfl
theorem rn_ {s:Str} {l:List Str} {k:Nat} (h:DkI s l k):(gk l k).2.1.length≤10000060000:=h.2.2.2.2
attribute [local go_sem] at_ bm_ a6_ al_ aq_ je_ mw_ awk_ qr_ ayq_ ayr_ axk_ ax4_ ayk_ axp_ in
theorem af7_ (s:Str) (hs:s.length≤281474976710656):ACall En 6 [.s s] [] [.s (air_ s)] []:=by
 obtain⟨iB,i1,i2,i3⟩:=bldI
 have hc:s.length≤20000→(cp_ 10 s).length≤20001∧∀x∈cp_ 10 s,x.length≤20000:=fun h=>by
  have:=j5_ 10 s
  exact⟨by have:=gv_ (cp_ 10 s);omega,fun x hx=>by have:=lq_ hx;omega⟩
 have hd:air_ s=if 20000<s.length then [108,111,110,103,10]else(goD (cp_ 10 s) 0 (jk_ []) []).2.1:=rfl
 have C0:=fun h:s.length≤20000=>aqa_ 10 s (by omega)
 generalize cp_ 10 s=l at *
 refine aa_ [] Tryz.func6 Tryz.ntmps6 fun C=>?_
 refine .seq (.rg [] ?_)
 refine .seq (.seq (.rg [] ?_))
 refine .cB (fun h10=>?_) (fun h10=>?_)
 ·refine .seq (.rg [] ?_)
  refine .ret ⟨.inr rfl,?_⟩
  exact Out.pl (by simp only[Tryz.results6];rfl) (by simp only[ag_,go_sem,seval]<;>(simp only[T3_]at h10;rw[hd,if_pos (by omega)]))
 ·refine .skip (.seq (.rg [ab_ (amf_ [] (by decide))] ?_))
  refine .seq (.rgSo [4] [xp_ En 39 14] ?_ ?_)
  ·exact⟨_,i1,i3⟩
  refine .seqJ (fun p:Nat × Str=>⟨[.no,.no,.no,.no,.pt 14 2 0 0,.no,.no,.no,.no,.no,.no,.no,.no,.no,.no,.no,.no,.no,.no,.no,.no,.no,.no,.no,.no,.no,.no,.no,.no,.no,.no,.no,.no,.no,.no,.no,.no,.no,.no,.no,.no],ak_ [(14,⟨39,2,[[bA 14 p.1,bB 20 p.2.length]]⟩),(20,⟨5,1,byR p.2⟩)],us [14,20]⟩) (fun p:Nat × Str=>p.2=(goD l 0 (jk_ []) []).2.1∧p.2.length≤20000000000) ?_ (fun p hJ=>?_)
  ·refine .seq (.rgo [a4_ (s.length≤20000) C0] ?_ ?_)
   ·simp only[T4_]at h10;omega
   refine .block (.loopK (fun q:Nat × Nat=>⟨[.no,.no,.no,.pt 23 1 0 0,.pt 14 2 0 0,.no,.no,.no,.no,.no,.no,.no,.no,.no,.no,.sl false (an_ l),.i .i64 l.length,.i .i64 q.1,.no,.no,.no,.no,.no,.no,.no,.no,.no,.no,.no,.no,.no,.no,.no,.no,.no,.no,.no,.no,.no,.no,.no],ak_ [(23,⟨36,1,[[.sl false (pgR (gk l q.1).1)]]⟩),(14,⟨39,2,[[bA 14 q.2,bB 20 (gk l q.1).2.1.length]]⟩),(20,⟨5,1,byR (gk l q.1).2.1⟩)],us [14,20,23]⟩) (fun q:Nat × Nat=>DkI s l q.1) (fun q:Nat × Nat=>l.length - q.1) ((0,0)) ?_ ?_ (fun q hI=>?_))
   ·simp only[T4_]at h10;exact⟨Nat.zero_le _,by omega,rfl,ade_,Nat.zero_le _⟩
   ·refine Can.trans (Can.newName 20 5 1 (by simp only[go_sem,seval]<;>rfl) (by simp only[go_sem,seval]<;>rfl)) ?_
    refine Can.wm ?_;first|trivial|(exact⟨rfl,rfl,rfl⟩)
   refine .seq (.rg [] ?_)
   refine .seq (.cB (fun h18=>?_) (fun h18=>?_))
   ·refine .skip (.seqJ (fun u:Nat=>⟨[.no,.no,.no,.pt 23 1 0 0,.pt 14 2 0 0,.no,.no,.no,.no,.no,.no,.no,.no,.no,.no,.sl false (an_ l),.i .i64 l.length,.i .i64 q.1,.no,.no,.no,.no,.no,.no,.no,.no,.no,.no,.no,.no,.no,.no,.no,.no,.no,.no,.no,.no,.no,.no,.no],ak_ [(23,⟨36,1,[[.sl false (pgR (gk l (q.1+1)).1)]]⟩),(14,⟨39,2,[[bA 14 u,bB 20 (gk l (q.1+1)).2.1.length]]⟩),(20,⟨5,1,byR (gk l (q.1+1)).2.1⟩)],us [14,20,23]⟩) (fun u:Nat=>DkI s l (q.1+1)) ?_ (fun u hJ=>?_))
    ·refine .block (.seq (.rgo [] ?_ ?_ (h:=by simp only[go_sem,seval,aw_ (show q.1<l.length by simpa using h18)];rfl)))
     ·simp only[T3_]at h18;simp;omega
     refine .seq (.rgo [qr_ [] [32] (q.1<l.length∧s.length≤20000) (fun h=>adj_ 32 (l.getD q.1 []) (by have:=(hc h.2).2 _ (am_ (d:=[]) h.1);omega)),qr_ [32] [] (q.1<l.length∧s.length≤20000) (fun h=>zl_ (cp_ 32 (l.getD q.1 [])) (by have:=ad7_ 32 (l.getD q.1 []);have:=(hc h.2).2 _ (am_ (d:=[]) h.1);omega))] ?_ ?_)
     ·simp only[T3_]at h18;simp;exact⟨by omega,hI.2.1⟩
     refine .seq (.seq (.rg [] ?_))
     refine .cB (fun h27=>?_) (fun h27=>?_)
     ·refine .exit ?_
      refine Exists.intro (q.2) ⟨?_,?_⟩
      ·first|exact hI.skip (by simpa using h18) (eq0 h27)|exact hI.step (by simpa using h18) (ne0 h27) (lw_ h33)
      refine Can.wm ?_;first|trivial|(first|(rw[n6_ (by simpa using h18) hI.2.2.1 (eq0 h27)];exact⟨rfl,rfl,rfl⟩)|(rw[p5_ (by simpa using h18) hI.2.2.1 (ne0 h27) (lw_ h33),T2_];exact⟨rfl,rfl,rfl⟩))
     ·refine .skip (.seq (.seq (.rg [awk_ [14,20] (a0z_ q.2 (gk l q.1).2.1.length (gk l q.1).2.1)] ?_)))
      refine .cB (fun h33=>?_) (fun h33=>?_)
      ·refine .seq (.rg [jb_ [14,20] [14,40] (dv_ q.2 (gk l q.1).2.1.length (gk l q.1).2.1 [102,117,108,108,10] rfl (by have:=rn_ hI;simp only[T7_,List.length_nil];omega))] ?_)
       refine .exit ?_
       refine Exists.intro ((1,(gk l q.1).2.1++[102,117,108,108,10])) ⟨?_,?_⟩
       ·first|(refine⟨(aa0_ (by simpa using h18) hI.2.2.1 (ne0 h27) (agc_ h33)).symm,?_⟩;have:=rn_ hI;simp only[T2_,T7_,List.length_nil];omega)|(simp only[T4_]at h18;refine⟨congrArg (fun x=>x.2.1) (ahm_ (show l.length≤q.1 by omega)),?_⟩;have:=rn_ hI;dsimp only;omega)
       refine Can.trans (Can.sX 40 20) ?_
       refine Can.wm ?_;first|trivial|(rw[T2_];rfl)
      ·refine .skip (.can (Can.frz 32 (by simp only[go_sem,seval]<;>rfl) (by simp only[go_sem,seval]) (by simp only[go_sem,seval]<;>rfl) (by simp only[go_sem,seval]<;>rfl)) ?_)
       refine .rgo [qr_ [23] [] (bq_ (gk l q.1).1=true∧fil (cp_ 32 (l.getD q.1 []))≠[]∧q.1<l.length∧s.length≤20000) (fun h=>axb_ (gk l q.1).1 (fil (cp_ 32 (l.getD q.1 []))) h.1 (by have:j7_ (fil (cp_ 32 (l.getD q.1 [])))≤(l.getD q.1 []).length+1:=x6_ (l.getD q.1 []);have:=(hc h.2.2.2).2 _ (am_ (d:=[]) h.2.2.1);omega) (List.length_pos_iff.2 h.2.1)),jb_ [14,20] [14,40] (dv_ q.2 (gk l q.1).2.1.length (gk l q.1).2.1 (b8_ (gk l q.1).1 (fil (cp_ 32 (l.getD q.1 [])))).2 rfl (by have:=rn_ hI;have:=wd_ (gk l q.1).1 (fil (cp_ 32 (l.getD q.1 [])));omega))] ?_ ?_
       ·and_intros<;>first|decide|exact hI.2.2.2.1|exact ne0 h27|exact hI.2.1|(simp only[T3_]at h18;omega)
       refine Exists.intro (1) ⟨?_,?_⟩
       ·first|exact hI.skip (by simpa using h18) (eq0 h27)|exact hI.step (by simpa using h18) (ne0 h27) (lw_ h33)
       refine Can.trans (Can.sX 40 20) ?_
       refine Can.wm ?_;first|trivial|(first|(rw[n6_ (by simpa using h18) hI.2.2.1 (eq0 h27)];exact⟨rfl,rfl,rfl⟩)|(rw[p5_ (by simpa using h18) hI.2.2.1 (ne0 h27) (lw_ h33),T2_];exact⟨rfl,rfl,rfl⟩))
    refine .rg [] ?_
    refine Exists.intro ((q.1+1,u)) ⟨?_,?_,?_⟩
    ·exact hJ
    ·simp at h18;dsimp only;omega
    refine Can.wh ?_;first|trivial|(have w:=hc hI.2.1;simp at h18;rw[aj_ (by omega) (by omega)];rfl)
   ·refine .exit ?_
    refine Exists.intro ((q.2,(gk l q.1).2.1)) ⟨?_,?_⟩
    ·first|(refine⟨(aa0_ (by simpa using h18) hI.2.2.1 (ne0 h27) (agc_ h33)).symm,?_⟩;have:=rn_ hI;simp only[T2_,T7_,List.length_nil];omega)|(simp only[T4_]at h18;refine⟨congrArg (fun x=>x.2.1) (ahm_ (show l.length≤q.1 by omega)),?_⟩;have:=rn_ hI;dsimp only;omega)
    refine Can.wm ?_;first|trivial|(rw[T2_];rfl)
  refine .seq (.rg [jb_ [14,20] [14] (l9_ p.1 p.2.length p.2 rfl (by have:=hJ.2;omega))] ?_)
  refine .ret ⟨.inr rfl,?_⟩
  exact Out.pl (by simp only[Tryz.results6];rfl) (by simp only[ag_,go_sem,seval]<;>(simp only[T4_]at h10;rw[hd,if_neg (by omega),hJ.1]))
end
section
open Go.ChangeShapes Go.WideShapes Go.ChangeAt Go.RowKit
set_option maxRecDepth 100000
theorem aux_:ownKnob Tryz.prog.godebug=none:=by kernel_rfl
theorem ato_:laidOutB Tryz.prog=true:=by kernel_rfl
theorem ayl_:Tryz.prog.cellsOf 9=1:=by kernel_rfl
structure LaidIn (L:List (String × DataW Unit)):Prop where
 t:("internal/strconv.uint64pow10",Rows.laid_internal_strconv_uint64pow10)∈L
 r:("strconv.ErrRange",Rows.laid_strconv_ErrRange)∈L
 s:("strconv.ErrSyntax",Rows.laid_strconv_ErrSyntax)∈L
 o:("loop.example/interlinear/impl.ownWords",Rows.laid_loop_example_interlinear_impl_ownWords)∈L
 h:(L.filter fun x=>x.2.handleName?.isSome)=[]
theorem LaidIn.met {W:World} {L:List (String × DataW Unit)} (I:LaidIn L) (hL:laidMetH Tryz.prog L W):laidMet Tryz.prog L W:=by
 unfold laidMetH at hL
 rw[I.h]at hL
 exact hL
theorem gOwn:Tryz.prog.globalNamed "loop.example/interlinear/impl.ownWords" = some 1:=by kernel_rfl
theorem gtTab:(Tryz.prog.globals[6]?).map (·.type)=some 279:=by kernel_rfl
theorem a0d_:(Tryz.prog.globals[4]?).map (·.type)=some 44:=by kernel_rfl
theorem az1_:(Tryz.prog.globals[5]?).map (·.type)=some 44:=by kernel_rfl
theorem gtOwn:(Tryz.prog.globals[1]?).map (·.type)=some 29:=by kernel_rfl
theorem au0_:Tryz.prog.cellsOf 279=20:=by kernel_rfl
theorem asj_:Tryz.prog.cellsOf 257=1:=by kernel_rfl
theorem vt_ {φ:Phi} {S:Nat→Prop} {w:World}:∀l:List Str,VRr φ S w 1 (an_ l) (l.map fun s=>Value.string ⟨s.toArray⟩)
 |[]=>by simp only[an_,List.map_nil];exact VRr.nil
 |s::l=>by
  simp only[an_,List.map_cons]
  exact VRr.cons (ys:=[.string ⟨s.toArray⟩]) rfl (.cons (by simp only[VR]) .nil) (fun u hu=>by simp at hu;subst hu;rfl) (vt_ l)
theorem sr_ {H:Type} {enc:TypeId × Value→H} {P:Program} {w:World} {base:Nat} {sp:Nat→Bool} {jn_:Bool} {fuel:Nat} {t:TypeId} {ms:Array (String × TypeId)} {cs:List Value} {nm:String} {d:DataW H} {p:List MemPlace}
  (hi:P.underlying t=some (.interface ms)) (h:DataW.trod enc P w base sp jn_ fuel t cs=some (.iface nm d,p)):∃u v,cs=[.iface u v]:=by
 cases fuel with
 |zero=>simp[DataW.trod]at h
 |succ fuel=>
  unfold DataW.trod at h
  rw[hi]at h
  split at h<;>simp_all
theorem yf_ {W:World} {n nm:String} {d:DataW Unit} {g:Nat} {t:TypeId} {ms:Array (String × TypeId)} (h:Lib.VarReads Tryz.prog W n (.iface nm d)) (hg:Tryz.prog.globalNamed n=some g) (ht:(Tryz.prog.globals[g]?).map (·.type)=some t) (hi:Tryz.prog.underlying t=some (.interface ms)) :
  ∃u v,W.var? Tryz.prog n=some #[.iface u v]:=by
 obtain⟨g',t',cs,fuel,p,hg',ht',hv,hd⟩:=h
 obtain rfl:=Option.some.inj (hg.symm.trans hg')
 obtain rfl:=Option.some.inj (ht.symm.trans ht')
 obtain⟨u,v,hcs⟩:=sr_ hi hd
 exact⟨u,v,by rw[hv,Array.eq_one_of_toList hcs]⟩
theorem aaf_ {W:World} {n:String} {g:Nat} {cs:Array Value} (hg:Tryz.prog.globalNamed n=some g) (hv:W.var? Tryz.prog n=some cs):g<W.heap.size:=by
 unfold World.var? at hv
 rw[hg]at hv
 simp only[Option.bind_some]at hv
 cases hh:W.heap[g]? with
 |none=>rw[hh]at hv;cases hv
 |some o=>exact(Array.getElem?_eq_some_iff.1 hh).1
theorem ahj_ {W:World} {L:List (String × DataW Unit)} (I:LaidIn L) (hL:laidMetH Tryz.prog L W) (hS:W.ShapedOpen Tryz.prog):Gl W.heap.size W:=by
 have hM:laidMet Tryz.prog L W:=I.met hL
 have r1:=Lib.laidMet.reads hM (n:= "internal/strconv.uint64pow10") I.t
 have r2:=Lib.laidMet.reads hM (n:= "strconv.ErrRange") I.r
 have r3:=Lib.laidMet.reads hM (n:= "strconv.ErrSyntax") I.s
 obtain⟨m,hm⟩:=cell_of_shapedOpen_int (P:=Tryz.prog) (g:=0) (t:=3) (k:=.i64) (zero:=#[.int .i64 0]) hS (of_decide_eq_true (by kernel_rfl)) (by kernel_rfl) rfl (by kernel_rfl) (by kernel_rfl) Tryz.underlying3
 have hmB:0<W.heap.size:=by
  unfold World.cell? at hm
  cases hh:W.heap[0]? with
  |none=>simp[hh]at hm
  |some o=>exact(Array.getElem?_eq_some_iff.1 hh).1
 have h1:Lib.TabIs Tryz.prog W "internal/strconv.uint64pow10" .u64 Lib.pow10Tab:=by
  obtain⟨g',t',cs,fuel,p,hg',ht',hv,hd⟩:=r1
  obtain rfl:=Option.some.inj (gTab.symm.trans hg')
  obtain rfl:=Option.some.inj (gtTab.symm.trans ht')
  unfold Lib.TabIs
  rw[hv,←Lib.cells_of_tab (k:=.u64) (zs:=Lib.pow10Tab) Tryz.underlying279 Tryz.underlying257 asj_ au0_ hd]
 obtain⟨u2,v2,h2⟩:=yf_ r2 gRng az1_ Tryz.underlying44
 obtain⟨u3,v3,h3⟩:=yf_ r3 gSyn a0d_ Tryz.underlying44
 exact⟨h1,⟨u3,v3,h3⟩,⟨u2,v2,h2⟩,⟨m,hm⟩,aaf_ gTab h1,aaf_ gSyn h3,aaf_ gRng h2,hmB⟩
theorem aci_ {W:World} {L:List (String × DataW Unit)} (I:LaidIn L) (hL:laidMetH Tryz.prog L W):VR (fun _=>none) (fun _=>True) W (.rp [.sl false (an_ ownW)]) (.pointer (some ⟨1,0,none⟩)):=by
 have hM:laidMet Tryz.prog L W:=I.met hL
 have r1:=Lib.laidMet.reads hM (n:= "loop.example/interlinear/impl.ownWords") I.o
 obtain⟨g',t',cs,fuel,p,hg',ht',hv,hd⟩:=r1
 obtain rfl:=Option.some.inj (gOwn.symm.trans hg')
 obtain rfl:=Option.some.inj (gtOwn.symm.trans ht')
 have hd':DataW.trod (fun _=>()) Tryz.prog W 0 (fun _=>true) false fuel 29 cs.toList=some (.slice (ownW.map fun s=>.lit (.string s)) [],p):=hd
 obtain⟨a,cap,hcs,hle,hel⟩:=open_row Tryz.underlying29 ayl_ hd'
 have hmx:cap≤maxLen:=by
  rcases DataW.trod_slice Tryz.underlying29 hd' with⟨h0,_⟩|⟨a2,len2,cap2,elems,rest,n,_,hcs2,_,_,_,hm,_⟩
  ·rw[hcs]at h0;simp at h0
  ·rw[hcs]at hcs2
   simp only[List.cons.injEq,Value.slice.injEq,and_true]at hcs2
   rw[hcs2.2.2];exact hm
 obtain⟨b,off,spot⟩:=a
 have hs:spot=none:=by
  obtain⟨v,n,q,h1,_⟩:=hel 0 (.lit (.string [108,101,116])) rfl
  simpa[Addr.add]using World.cell?_spot h1
 subst hs
 have hcell:∀i,i<8→∃s:Str,ownW[i]? = some s∧W.cell? ⟨b,off+i,none⟩=some (.string ⟨s.toArray⟩):=fun i hi=>by
  have hi2:i<ownW.length:=hi
  obtain⟨v,n,q,h1,h2⟩:=hel i (.lit (.string (ownW[i]'hi2))) (by rw[List.getElem?_map,T6_ hi2];rfl)
  obtain⟨s,e1,e2,_⟩:=DataW.trod_string Tryz.underlying9 h2
  simp only[List.cons.injEq,and_true]at e1
  subst e1
  simp only[Prod.mk.injEq,DataW.lit.injEq,Lit.string.injEq]at e2
  refine⟨ownW[i]'hi2,T6_ hi2,?_⟩
  rw[add_plain]at h1
  rw[h1,e2.1]
 obtain⟨s0,_,hc0⟩:=hcell 0 (by decide)
 have hb:b<W.heap.size:=by
  cases hh:W.heap[b]? with
  |none=>simp[World.cell?,hh]at hc0
  |some o=>exact(Array.getElem?_eq_some_iff.1 hh).1
 have hv0:=World.var?_cell gOwn hv 0
 rw[Array.eq_one_of_toList hcs]at hv0
 have hg:=aaf_ gOwn hv
 simp only[VR]
 refine⟨_,0,[.slice (some ⟨b,off,none⟩) ownW.length cap],rfl,trivial,hg,fun j u hu=>?_,.cons ?_ .nil⟩
 ·cases j with
  |zero=>simp at hu;subst hu;simpa using hv0
  |succ j=>simp at hu
 ·simp only[VR]
  refine⟨some ⟨b,off,none⟩,cap,1,ownW.map fun s=>.string ⟨s.toArray⟩,by simp[al_],by simpa[al_]using hle,hmx,fun e=>(by simp at e),fun _=>⟨b,off,rfl,trivial,hb,fun j u hu=>?_⟩,vt_ ownW⟩
  ·rw[List.getElem?_map]at hu
   have hj:j<8:=by
    rcases Nat.lt_or_ge j 8 with h|h
    ·exact h
    ·rw[List.getElem?_eq_none (by exact h)]at hu;cases hu
   obtain⟨s,e1,e2⟩:=hcell j hj
   rw[e1]at hu
   simp at hu;subst hu
   exact e2
theorem avz_ {f:FuncId} {vs:List V} {args:Array Value} {W:World} {L:List (String × DataW Unit)} (A:ACall En f vs [] [.b true] []) (hx:VRs (fun _=>none) (fun _=>True) W vs args.toList) (I:LaidIn L) (hL:laidMetH Tryz.prog L W) (hS:W.ShapedOpen Tryz.prog) :
  Calls Tryz.prog f args W fun e w'=>e = .returned (.bool true)∧Below W.heap.size W w':=by
 have hp:Pre En (fun _=>none) (fun _=>True) W vs [] args:=by
  refine⟨hx,fun i b hb=>by simp at hb,fun i j g hi=>by simp at hi,fun g _ l b hb=>by simp,fun g cs hg=>?_,fun l hl=>absurd rfl hl,W.heap.size,ahj_ I hL hS,Nat.le_refl _,fun i g hg=>by cases hg⟩
  simp only[En]at hg
  split at hg
  ·rename_i e;subst e;cases hg;exact aci_ I hL
  ·cases hg
 refine(A.2 _ _ W args hp).mono fun e w' ⟨xs,φr,he,hpost⟩=>?_
 have hr:=hpost.res
 simp only[VRs,VR]at hr
 obtain⟨x,r,rfl,rfl,rfl⟩:=hr
 refine⟨he,?_⟩
 have:=hpost.frame.mono (Qb:=fun _=>False) fun g _ ⟨i,hi,_⟩=>by simp at hi
 exact this.toBelow
end
section
open Go.ChangeShapes Go.WideShapes Go.ChangeAt Go.RowKit Go.WideElems
set_option maxRecDepth 100000
def tyOk (P:Program) (t:TypeId):Prop:=P.readableRec t=true∧t<P.types.size
section
variable {P:Program} {H:Type} {enc:TypeId × Value→H} {W W':World} {sp:Nat→Bool}
theorem pj_ (hl:laidOutB P=true) (hb:Below W.heap.size W W'):∀ {ts:List TypeId} {vs:List Value} {ds:List (DataW H)} {ps:List MemPlace},DataW.TrodAll enc P W 0 (fun _=>true) true ts vs ds ps→(∀t∈ts,tyOk P t)→(∀x∈ps,x.block<W.heap.size)→(∀p∈ps,sp p.block=true)→DataW.TrodAll enc P W' 0 sp true ts vs ds ps
 |[],_,_,_,h,_,_,_=>by
  obtain⟨rfl,rfl,rfl⟩:=trodAll_nil h
  exact trodAll_mk0
 |t::ts,_,_,_,h,ht,hlt,hs=>by
  obtain⟨v,vs1,d,ds1,a,b,rfl,rfl,rfl,h1,h2⟩:=trodAll_cons h
  have hk:=ht t List.mem_cons_self
  exact⟨a,b,Trod_stays hl hk.1 hk.2 h1 (fun x hx=>hb.same (hlt x (List.mem_append_left _ hx))) (fun x hx=>hs x (List.mem_append_left _ hx)),
   pj_ hl hb h2 (fun t h=>ht t (List.mem_cons_of_mem _ h)) (fun x hx=>hlt x (List.mem_append_right _ hx)) (fun x hx=>hs x (List.mem_append_right _ hx)),rfl⟩
theorem at0_ {n:String} {g:Nat} {cs:Array Value} (hg:P.globalNamed n=some g) (hv:W.var? P n=some cs):g<W.heap.size:=by
 unfold World.var? at hv
 rw[hg]at hv
 simp only[Option.bind_some]at hv
 cases hh:W.heap[g]? with
 |none=>rw[hh]at hv;cases hv
 |some o=>exact(Array.getElem?_eq_some_iff.1 hh).1
theorem nj_ (hl:laidOutB P=true) (hb:Below W.heap.size W W'):∀ {ns:List String} {gs:List (DataW H)} {ps:List MemPlace},DataW.TrodVars enc P W (fun _=>true) ns gs ps→(∀n∈ns,∀g t,P.globalNamed n=some g→(P.globals[g]?).map (·.type)=some t→tyOk P t)→(∀x∈ps,x.block<W.heap.size)→(∀p∈ps,sp p.block=true)→DataW.TrodVars enc P W' sp ns gs ps
 |[],_,_,h,_,_,_=>by
  obtain⟨rfl,rfl⟩:=trodVars_none h
  rfl
 |n::ns,gs,ps,h,ht,hlt,hs=>by
  cases gs with
  |nil=>simp[DataW.TrodVars]at h
  |cons d ds=>
   obtain⟨g,t,cs,fuel,p,q,h1,h2,h3,h4,h5,rfl⟩:=h
   have hk:=ht n List.mem_cons_self g t h1 h2
   refine⟨g,t,cs,fuel,p,q,h1,h2,?_,DataW.trod_stays (kids_book hl hk.1) (book_sized hk.1) (fun h=>by cases h) ⟨hk.2,book_self t⟩ h4 (fun x hx=>hb.same (hlt x (by simp only[List.mem_append];exact .inl (.inr hx)))) (fun x hx=>hs x (by simp only[List.mem_append];exact .inl (.inr hx))),
    nj_ hl hb h5 (fun m hm=>ht m (List.mem_cons_of_mem _ hm)) (fun x hx=>hlt x (List.mem_append_right _ hx)) (fun x hx=>hs x (List.mem_append_right _ hx)),rfl⟩
   rw[←h3]
   unfold World.var?
   rw[h1]
   simp only[Option.bind_some]
   have hg:=at0_ h1 h3
   rw[hb.block g hg]
theorem alj_ (hl:laidOutB P=true) {tb:TypeId} (hu:P.underlying tb=some .bool) {f:Func} {s:ChangeSpec} {args:Array Value} {ds gs:List (DataW H)} {before:List MemPlace}
  (hW:DataW.Whole enc P f.params.toList s.vars false W args.toList ds gs before) (hb:Below W.heap.size W W')
  (hts:∀t∈f.params.toList,tyOk P t) (hvs:∀n∈s.vars,∀g t,P.globalNamed n=some g→(P.globals[g]?).map (·.type)=some t→tyOk P t)
  (hr:f.resultTypes=#[tb]) (hfn:s.fn H (ds++gs)={ results:=[.lit (.bool true)],args:=ds,vars:=gs }) :
  s.post enc P f false true false false W args (.bool true) W':=by
 have hlt:=hW.lt
 have hold:∀p∈before,(fun b=>decide (b<W.heap.size)) p.block=true:=fun p hp=>by simpa using hlt p hp
 have hW':=hW
 obtain⟨pa,pv,hA,hV,hps,hz,hn⟩:=hW'
 have hla:∀x∈pa,x.block<W.heap.size:=fun x hx=>hlt x (by rw[hps];exact List.mem_append_left _ hx)
 have hlv:∀x∈pv,x.block<W.heap.size:=fun x hx=>hlt x (by rw[hps];exact List.mem_append_right _ hx)
 have hres:∀(b:Nat) (sp:Nat→Bool) (hd:Bool),DataW.TrodAll enc P W' b sp hd f.resultTypes.toList ((Value.bool true).resultList f.resultTypes.size) [.lit (.bool true)] []:=fun b sp hd=>by
  rw[hr];exact trodAll_mk1 (shut_bool hu _)
 have hargs:∀sp:Nat→Bool,(∀p∈before,sp p.block=true)→DataW.TrodAll enc P W' 0 sp true f.params.toList args.toList ds pa:=fun sp hs=>pj_ hl hb hA hts hla fun x hx=>hs x (by rw[hps];exact List.mem_append_left _ hx)
 have hvars:∀sp:Nat→Bool,(∀p∈before,sp p.block=true)→DataW.TrodVars enc P W' sp s.vars gs pv:=fun sp hs=>nj_ hl hb hV hvs hlv fun x hx=>hs x (by rw[hps];exact List.mem_append_right _ hx)
 have hok:∀(j:Nat) (t:TypeId) (r:Value),f.resultTypes[j]? = some t→((Value.bool true).resultList f.resultTypes.size)[j]? = some r→Value.okWide P W' .any 0 t r:=ok_one hr rfl (okWide_bool_mk hu _)
 refine⟨ds,gs,before,[],pa,pv,hW,by rw[hfn];exact hres _ _ _,by rw[hfn];exact hargs _ hold,by rw[hfn];exact hvars _ hold,World.keptBut_mono (fun p hp=>⟨hp,?_⟩) (hb.frame (·∈before)),fun _=>?_⟩
 ·rw[hps,List.mem_append]at hp
  exact Or.inr hp
 ·refine⟨hok,_,_,([]++pa)++pv,⟨[]++pa,pv,trodAll_append (hargs _ (fun _ _=>rfl)) (hres _ _ _),hvars _ (fun _ _=>rfl),rfl,?_,?_⟩,?_⟩
  ·intro b off hp
   have hp':MemPlace.cell b off∈before:=by rw[hps];simpa using hp
   rw[hb.frozen (hlt _ hp')]
   exact hz b off hp'
  ·intro ha;cases ha
  ·intro p hp _
   rw[hps]
   simpa using hp
end
theorem a0v_:∀n∈["loop.example/interlinear/impl.ownWords"],∀g t,Tryz.prog.globalNamed n=some g→(Tryz.prog.globals[g]?).map (·.type)=some t→tyOk Tryz.prog t:=fun n hn g t hg ht=>by
 obtain rfl:n = "loop.example/interlinear/impl.ownWords" :=by simpa using hn
 obtain rfl:=Option.some.inj (gOwn.symm.trans hg)
 obtain rfl:=Option.some.inj (gtOwn.symm.trans ht)
 exact⟨by kernel_rfl,of_decide_eq_true (by kernel_rfl)⟩
end
section
set_option maxRecDepth 100000
set_option maxHeartbeats 4000000
def z4:List V:=[.i .i64 0,.i .i64 0,.s [],.sl true []]
end
section
set_option maxRecDepth 100000
set_option maxHeartbeats 4000000
end
section
open Go.ChangeShapes Go.WideShapes Go.ChangeAt Go.RowKit
set_option maxRecDepth 100000
section
variable {H:Type} {enc:TypeId × Value→H} {P:Program} {W:World}
def Opn (enc:TypeId × Value→H) (P:Program) (W:World) (fuel:Nat) (t:TypeId) (Q:List V→Prop):Prop:=
 ∀cs x,DataW.trod enc P W 0 (fun _=>true) true fuel t cs=some x→∃vs,Q vs∧VRs (fun _=>none) (fun _=>True) W vs cs∧vs.all V.one=true
theorem auv_ {t:TypeId} {fuel:Nat} (ht:P.underlying t=some .string):Opn enc P W fuel t fun vs=>∃s:Str,vs=[.s s]∧s.length≤maxLen:=fun cs x h=>by
 obtain⟨s,rfl,_,hw⟩:=DataW.trod_string ht h
 refine⟨_,⟨s.data.toList,rfl,by rw[Array.length_toList];exact hw⟩,.cons (by simp only[VR]) .nil,rfl⟩
end
section
variable {H:Type} {enc:TypeId × Value→H} {W:World}
theorem ash_ {r:Reach} {base:Nat} {v0:Value} {d0:DataW H} {p:List MemPlace} (hv:Value.okWide Tryz.prog W r base 9 v0) (h0:DataW.Trod enc Tryz.prog W 0 (fun _=>true) true 9 v0 d0 p) :
  ∃b:Str,b.length≤9223372036854775807∧VR (fun _=>none) (fun _=>True) W (.s b) v0:=by
 obtain⟨fuel,h⟩:=h0
 obtain⟨_,⟨s,rfl,hs⟩,hr,_⟩:=auv_ (enc:=enc) (P:=Tryz.prog) (W:=W) Tryz.underlying9 _ _ h
 have hm:maxLen=9223372036854775807:=by decide
 obtain⟨x,rfl⟩:=okWide_string Tryz.underlying9 hv
 refine⟨s,by omega,?_⟩
 simpa[Value.cells,VRs]using hr
end
end
end Go.Proofs.YthjccajoadjicaaGreatDoor
