/- The desk: the program's lines of words. Conditions: none. -/
import Derived.Test.YthjccajoadjicaaGreatDoorMq
import Derived.Test.YthjccajoadjicaaGreatDoorRows
import Derived.ProofKit
import Derived.OpenShut
import Derived.OpenVars
import Derived.Carry
import Derived.LaidMore
import Derived.Lib.LaidU8
import Derived.Shelf.Vars
import Derived.Deep.DeepHandedRow
import Derived.Deep.DeepWitnessRowRef
set_option linter.unusedVariables false
set_option linter.unusedSimpArgs false
set_option maxRecDepth 100000
set_option maxHeartbeats 8000000
namespace Go.Proofs.YthjccajoadjicaaGreatDoor
section
open Go.RowKit
theorem wn_ {s:Str} (h:a8_ s=true):lc_ s = .i .i64 (am_ s):=by unfold lc_;rw[if_pos h]
theorem n1 {n:Nat} (h:((n:Int)==1)=false):n≠1:=by rintro rfl;simp at h
theorem y1 {n:Nat} (h:((n:Int)==1)=true):n=1:=by simp at h;omega
theorem tr_ (w:List Str) (k:Nat):((ai_ w).take w.length).drop k=ai_ (w.drop k):=by
 rw[List.take_of_length_le (by rw[af_];exact Nat.le_refl _)];simp[ai_,List.map_drop]
theorem sOne {w:List Str}:∀r∈ai_ w,r.length=1:=fun r hr=>by obtain⟨_,_,rfl⟩:=List.mem_map.1 hr;rfl
theorem outT {x c:Str} {n:Nat}:((x==c)&&((n:Int)==2))=true↔(x=c∧n=2):=by
 rw[Bool.and_eq_true,beq_iff_eq,beq_iff_eq];constructor<;>(rintro⟨a,b⟩;exact⟨a,by omega⟩)
theorem pkT {x c d:Str} {n:Nat}:(((x==c)||(x==d))&&((n:Int)==3))=true↔((x=c∨x=d)∧n=3):=by
 rw[Bool.and_eq_true,Bool.or_eq_true,beq_iff_eq,beq_iff_eq,beq_iff_eq];constructor<;>(rintro⟨a,b⟩;exact⟨a,by omega⟩)
theorem bF {t:Bool} (h:t=false):¬t=true:=by rw[h];decide
attribute [local go_sem] aw_ a5_ a3_ bl_ af_ ah_ kn_ y5_ uy_ akn_ in
theorem a2r_ (b:List Pg) (w:List Str) (hb:bi_ b=true) (hw:kf_ w≤100000) (h0:0<w.length):ACall En 18 [.pt 0 1 0 0,.sl false (ai_ w)] (dk b) [.s (bw_ b w).2] (dk (bw_ b w).1):=by
 obtain⟨hs,hl0⟩:=pa_ hb
 have hl:b.length≤2000000:=by omega
 have h1:=gu_ w
 have h2:=fun k=>ra_ w k
 have hv:a8_ (w.getD 1 [])=true→am_ (w.getD 1 [])≤1000000:=fun h=>(by unfold a8_ at h;simp only[Bool.and_eq_true,decide_eq_true_eq]at h;exact h.1)
 have hg:=fun k=>zr_ w k
 refine aa_ [0] Tryz.func18 Tryz.ntmps18 fun C=>?_
 refine .seq (.rg [] ?_)
 refine .seq (.seq (.rgo [] ?_ ?_ (h:=by simp only[go_sem,seval,an_ h0];rfl)))
 ·((simp;omega))
 refine .cB (fun h12=>?_) fun h12=>?_
 ·refine .seq (.rgDo [ab_ (gh_ (w.drop 1) (by have:=h2 1;omega) (by rw[List.length_drop];omega)),ab_ (vp_ b b.length (ap_ (w.drop 1)) hs hl (by omega) (by omega) (by have:=h2 1;omega)),at_ [0] [] (pd_ b (chg b b.length 0 [ap_ (w.drop 1)]) (bf_ b b.length 0 [ap_ (w.drop 1)]))] ?_ ?_)
  ·and_intros<;>first|omega|exact .inr sOne|decide|(rw[tr_];exact ad_ _)
  refine .ret ⟨.inr rfl,Out.mP Tryz.results18 ?_ ?_⟩
  ·unfold bw_;rw[if_pos (by simpa using h12)]
  unfold bw_;rw[if_pos (by simpa using h12)]
 refine .skip (.seq (.seq (.rg [] ?_)))
 refine .cB (fun h32=>?_) fun h32=>?_
 ·refine .seq (.rgo [at_ [0] [] (a25_ b (w.getD 0 []) hb)] ?_ ?_ (h:=by simp only[go_sem,seval,an_ h0];rfl))
  ·((simp;omega))
  refine .ret ⟨.inr rfl,Out.mP Tryz.results18 ?_ ?_⟩
  ·unfold bw_;rw[if_neg (by simpa using h12),if_pos (y1 h32)]
  unfold bw_;rw[if_neg (by simpa using h12),if_pos (y1 h32)]
 refine .skip (.seq (.rgo [ab_ (o6_ (w.getD 1 []) (by have:=hg 1;omega))] ?_ ?_ (h:=by simp only[go_sem,seval,an_ (show 1<w.length by have:=n1 h32;omega)];rfl)))
 ·have:=n1 h32;omega
 refine .seq (.block (.seq (.rg [] ?_)))
 refine .cB (fun h45=>?_) fun h45=>?_
 ·refine .seq (.rg [] ?_)
  refine .ret ⟨.inr rfl,Out.mP Tryz.results18 ?_ ?_⟩
  ·unfold bw_;rw[if_neg (by simpa using h12),if_neg (n1 h32),if_pos (by simpa using h45)];rfl
  unfold bw_;rw[if_neg (by simpa using h12),if_neg (n1 h32),if_pos (by simpa using h45)]
 refine .seq (.rgo [] ?_ ?_ (h:=by simp only[go_sem,seval,an_ h0];rfl))
 ·((simp;omega))
 refine .cB (fun h48=>?_) fun h48=>?_
 ·refine .seq (.rgDo [ab_ (gh_ (w.drop 2) (by have:=h2 2;omega) (by rw[List.length_drop];omega)),a0_ (a8_ (w.getD 1 [])=true) (fun h=>vp_ b (am_ (w.getD 1 [])) (ap_ (w.drop 2)) hs hl (by omega) (by have:=hv h;omega) (by have:=h2 2;omega)),at_ [0] [] (pd_ b (chg b (am_ (w.getD 1 [])) 0 [ap_ (w.drop 2)]) (bf_ b (am_ (w.getD 1 [])) 0 [ap_ (w.drop 2)]))] ?_ ?_ (h:=by simp only[go_sem,seval,wn_ (show a8_ (w.getD 1 [])=true by simpa using h45)];rfl))
  ·have:=n1 h32;and_intros<;>first|omega|exact .inr sOne|decide|(rw[tr_];exact ad_ _)|simpa using h45
  refine .ret ⟨.inr rfl,Out.mP Tryz.results18 ?_ ?_⟩
  ·unfold bw_;rw[if_neg (by simpa using h12),if_neg (n1 h32),if_neg (by simpa using h45),if_pos (by simpa using h48)]
  unfold bw_;rw[if_neg (by simpa using h12),if_neg (n1 h32),if_neg (by simpa using h45),if_pos (by simpa using h48)]
 refine .seq (.rgo [] ?_ ?_ (h:=by simp only[go_sem,seval,an_ h0];rfl))
 ·((simp;omega))
 refine .cB (fun h66=>?_) fun h66=>?_
 ·refine .seq (.rgDo [ab_ (gh_ (w.drop 2) (by have:=h2 2;omega) (by rw[List.length_drop];omega)),a0_ (a8_ (w.getD 1 [])=true) (fun h=>ag0_ b (am_ (w.getD 1 [])) (ap_ (w.drop 2)) hs hl (by omega) (by have:=hv h;omega) (by have:=h2 2;omega)),at_ [0] [] (pd_ b (chg b (am_ (w.getD 1 [])) 1 [ap_ (w.drop 2)]) (bf_ b (am_ (w.getD 1 [])) 1 [ap_ (w.drop 2)]))] ?_ ?_ (h:=by simp only[go_sem,seval,wn_ (show a8_ (w.getD 1 [])=true by simpa using h45)];rfl))
  ·have:=n1 h32;and_intros<;>first|omega|exact .inr sOne|decide|(rw[tr_];exact ad_ _)|simpa using h45
  refine .ret ⟨.inr rfl,Out.mP Tryz.results18 ?_ ?_⟩
  ·unfold bw_;rw[if_neg (by simpa using h12),if_neg (n1 h32),if_neg (by simpa using h45),if_neg (by simpa using h48),if_pos (by simpa using h66)]
  unfold bw_;rw[if_neg (by simpa using h12),if_neg (n1 h32),if_neg (by simpa using h45),if_neg (by simpa using h48),if_pos (by simpa using h66)]
 refine .seq (.rgo [] ?_ ?_ (h:=by simp only[go_sem,seval,an_ h0];rfl))
 ·((simp;omega))
 refine .cB (fun h84=>?_) fun h84=>?_
 ·refine .seq (.rgo [a0_ (a8_ (w.getD 1 [])=true) (fun h=>agf_ b (am_ (w.getD 1 [])) hs hl (by omega) (by have:=hv h;omega)),at_ [0] [] (pd_ b (chg b (am_ (w.getD 1 [])) 1 []) (bf_ b (am_ (w.getD 1 [])) 1 []))] ?_ ?_ (h:=by simp only[go_sem,seval,wn_ (show a8_ (w.getD 1 [])=true by simpa using h45)];rfl))
  ·and_intros<;>first|omega|exact .inr sOne|decide|(rw[tr_];exact ad_ _)|simpa using h45
  refine .ret ⟨.inr rfl,Out.mP Tryz.results18 ?_ ?_⟩
  ·unfold bw_;rw[if_neg (by simpa using h12),if_neg (n1 h32),if_neg (by simpa using h45),if_neg (by simpa using h48),if_neg (by simpa using h66),if_pos (outT.1 h84)]
  unfold bw_;rw[if_neg (by simpa using h12),if_neg (n1 h32),if_neg (by simpa using h45),if_neg (by simpa using h48),if_neg (by simpa using h66),if_pos (outT.1 h84)]
 refine .seq (.rgo [] ?_ ?_ (h:=by simp only[go_sem,seval,an_ h0];rfl))
 ·exact⟨⟨by omega,fun h=>⟨h,by omega⟩⟩,fun h=>by rw[h];rfl⟩
 refine .cB (fun h104=>?_) fun h104=>?_
 ·refine .seq (.rgo [ab_ (o6_ (w.getD 2 []) (by have:=hg 2;omega))] ?_ ?_ (h:=by simp only[go_sem,seval,an_ (show 2<w.length by have:=(pkT.1 h104).2;omega)];rfl))
  ·have:=(pkT.1 h104).2;omega
  refine .seq (.rg [] ?_)
  refine .cB (fun h127=>?_) fun h127=>?_
  ·refine .seq (.rgo [at_ [0] [] (axx_ b (w.getD 0 []) (am_ (w.getD 1 [])) (am_ (w.getD 2 [])) hs hl)] ?_ ?_ (h:=by simp only[go_sem,seval,an_ h0,wn_ (show a8_ (w.getD 1 [])=true by simpa using h45),wn_ h127];rfl))
   ·and_intros<;>first|omega|decide|rfl
   refine .ret ⟨.inr rfl,Out.mP Tryz.results18 ?_ ?_⟩
   ·unfold bw_;rw[if_neg (by simpa using h12),if_neg (n1 h32),if_neg (by simpa using h45),if_neg (by simpa using h48),if_neg (by simpa using h66),if_neg (fun q=>bF h84 (outT.2 q)),if_pos (let q:=pkT.1 h104;⟨q.1,q.2,h127⟩)]
   unfold bw_;rw[if_neg (by simpa using h12),if_neg (n1 h32),if_neg (by simpa using h45),if_neg (by simpa using h48),if_neg (by simpa using h66),if_neg (fun q=>bF h84 (outT.2 q)),if_pos (let q:=pkT.1 h104;⟨q.1,q.2,h127⟩)]
  refine .skip (.seq (.rg [] ?_))
  refine .ret ⟨.inr rfl,Out.mP Tryz.results18 ?_ ?_⟩
  ·unfold bw_;rw[if_neg (by simpa using h12),if_neg (n1 h32),if_neg (by simpa using h45),if_neg (by simpa using h48),if_neg (by simpa using h66),if_neg (fun q=>bF h84 (outT.2 q)),if_neg (fun q=>bF h127 q.2.2)];rfl
  unfold bw_;rw[if_neg (by simpa using h12),if_neg (n1 h32),if_neg (by simpa using h45),if_neg (by simpa using h48),if_neg (by simpa using h66),if_neg (fun q=>bF h84 (outT.2 q)),if_neg (fun q=>bF h127 q.2.2)]
 refine .skip (.seq (.rg [] ?_))
 refine .ret ⟨.inr rfl,Out.mP Tryz.results18 ?_ ?_⟩
 ·unfold bw_;rw[if_neg (by simpa using h12),if_neg (n1 h32),if_neg (by simpa using h45),if_neg (by simpa using h48),if_neg (by simpa using h66),if_neg (fun q=>bF h84 (outT.2 q)),if_neg (fun q=>bF h104 (pkT.2 ⟨q.1,q.2.1⟩))];rfl
 unfold bw_;rw[if_neg (by simpa using h12),if_neg (n1 h32),if_neg (by simpa using h45),if_neg (by simpa using h48),if_neg (by simpa using h66),if_neg (fun q=>bF h84 (outT.2 q)),if_neg (fun q=>bF h104 (pkT.2 ⟨q.1,q.2.1⟩))]
end
section
open Go.RowKit
theorem aix_ {E:Env} {f:FuncId} {fn:Func} {c:Code} {vs rs:List V} {b:Blk} (hf:E.P.funcs[f]? = some fn) (hb:fn.body=some c) (hname:(fn.name== "runtime.NumGoroutine")=false)
  (h:∀S w (xs:Array Value),VRs (fun _=>none) S w vs xs.toList→(∃B,E.H B w∧B≤w.heap.size)→
   Calls E.P f xs w fun e w'=>∃ys g arr zs,e = .returned (ga_ ys)∧Below w.heap.size w w'∧w.heap.size≤g∧w'.heap[g]? = some (.cells arr b.T (0,0))∧VRr (fun i=>if i=0 then some (some g)else none) (fun k=>(S k∨w.heap.size≤k)∧k≠g) w' b.z b.rows zs∧arr.toList.take zs.length=zs∧0<b.z∧
    VRs (fun i=>if i=0 then some (some g)else none) (fun k=>(S k∨w.heap.size≤k)∧k≠g) w' rs ys):ACall E f vs [] rs [b]:=by
 refine⟨fun args w=>?_,fun φ S w args hp=>?_⟩
 ·simp[callFunc,hf,hb]
  simpa using hname
 have hφ:φ=fun _=>none:=by
  funext l
  cases hh:φ l with
  |none=>rfl
  |some x=>have:=hp.low l (by rw[hh];simp);simp at this
 subst hφ
 obtain⟨B,b1,b2,_⟩:=hp.lad
 refine(h S w args hp.args ⟨B,b1,b2⟩).mono fun e w' ⟨ys,g,arr,zs,h1,h2,h3,h4,h5,h6,h7,h8⟩=>⟨ys,fun i=>if i=0 then some (some g)else none,h1,?_⟩
 have hk:KeepsW (fun i=>if i=0 then some (some g)else none) (fun i=>if i=0 then some (some g)else none) (fun k=>(S k∨w.heap.size≤k)∧k≠g) (SOf (fun i=>if i=0 then some (some g)else none) S w [b]) w' w':=
  ⟨fun _ _ h=>h,fun k hk _=>⟨⟨hk.1,fun l c hc hl=>by
   simp only[lq_]at hc
   cases l with
   |zero=>simp only[if_true,Option.some.injEq]at hl;exact hk.2 hl.symm
   |succ l=>simp at hl⟩,rfl⟩,Nat.le_refl _,fun _ _ h=>h⟩
 refine⟨fun i hi=>by simp at hi,h8.keep hk,fun i c hc=>?_,fun i k _ hk=>?_,fun i j k hi hj _ _=>by simp at hi hj;omega,FrameW.below h2 _⟩
 ·cases i with
  |succ i=>simp at hc
  |zero=>
   simp only[List.getElem?_cons_zero,Option.some.injEq]at hc
   subst hc
   exact .inr (.inl ⟨g,arr,zs,by simp,h4,h5.keep hk,h6,h7⟩)
 split at hk
 ·simp only[Option.some.injEq]at hk;omega
 cases hk
theorem ao3_ (d:UInt8) (s:Str) (hs:s.length≤1000000) {S:Nat→Prop} {w:World} {xs:Array Value} (hx:VRs (fun _=>none) S w [.s s,.s [d]] xs.toList) (hB:∃B,En.H B w∧B≤w.heap.size) :
  Calls En.P 13 xs w fun e w'=>∃g,e = .returned (.slice (some ⟨g,0,none⟩) (bx_ d s).length (bx_ d s).length)∧Below w.heap.size w w'∧w.heap.size≤g∧w'.heap[g]? = some (.cells ((bx_ d s).map fun s=>.string ⟨s.toArray⟩).toArray 9 (0,0)):=by
 simp only[VRs,VR]at hx
 obtain⟨x,r,e1,rfl,y,q,e2,rfl,rfl⟩:=hx
 subst e2
 obtain rfl:xs=#[.string ⟨s.toArray⟩,.string ⟨[d].toArray⟩]:=by apply Array.ext';simpa using e1
 obtain⟨B,hB,_⟩:=hB
 obtain⟨m,hm⟩:=hB.maxl
 have hk:(Lib.splitB ⟨[d].toArray⟩ 0 (Lib.countB ⟨s.toArray⟩ ⟨[d].toArray⟩) ⟨s.toArray⟩).map (·.data.toList)=bx_ d s:=by
  rw[Lib.splitB_data]
  exact xs_ d s.length s (Nat.le_refl _)
 have hv:(Lib.splitB ⟨[d].toArray⟩ 0 (Lib.countB ⟨s.toArray⟩ ⟨[d].toArray⟩) ⟨s.toArray⟩).map Value.string=(bx_ d s).map fun s=>Value.string ⟨s.toArray⟩:=by
  rw[←hk,List.map_map]
  exact List.map_congr_left fun b _=>by cases b;simp
 have hl:(bx_ d s).length=Lib.countB ⟨s.toArray⟩ ⟨[d].toArray⟩+1:=by
  rw[←hk,List.length_map]
  exact Lib.splitB_all _ (by simp[ByteArray.size]) 0 _ _ rfl
 refine(Tryz.strings_Split ⟨s.toArray⟩ ⟨[d].toArray⟩ m w (by simp[ByteArray.size];omega) hm (by simp[ByteArray.size])).mono ?_
 rintro e w' ⟨rfl,rfl⟩
 rw[hv,←hl]
 exact⟨w.heap.size,rfl,Joins.below_alloc1 _ _,Nat.le_refl _,heap_alloc_new w _⟩
theorem ag3_ (d:UInt8) (s:Str):(bx_ d s).length≤s.length+1:=by rw[←j7_ d s];exact gu_ _
theorem af9_ (d:UInt8) (s:Str) (hs:s.length≤1000000):ACall En 13 [.s s,.s [d]] [] [.ow 0 1 0 (bx_ d s).length] [⟨9,1,ai_ (bx_ d s)⟩]:=by
 refine aix_ (fn:=Tryz.f13) Tryz.func13 rfl rfl fun S w xs hx hB=>?_
 refine(ao3_ d s hs hx hB).mono ?_
 rintro e w' ⟨g,rfl,h2,h3,h4⟩
 have hc:=ag3_ d s
 refine⟨[_],g,_,(bx_ d s).map fun s=>.string ⟨s.toArray⟩,rfl,h2,h3,h4,aa9_ _,List.take_of_length_le (by simp),Nat.one_pos,.cons ?_ .nil⟩
 simp only[VR]
 exact⟨_,_,rfl,Nat.le_refl _,by unfold maxLen;omega,.inr ⟨g,9,(bx_ d s).length,rfl,by simp,by simp[World.shape?,h4],by simp⟩⟩
theorem aty_ (d:UInt8) (s:Str) (hs:s.length≤1000000):ACall En 13 [.s s,.s [d]] [] [.sl false (ai_ (bx_ d s))] []:=
 ACall.frz1 (af9_ d s hs) (by simp[er_,frz,af_,List.take_of_length_le])
end
section
open Go.RowKit
theorem amp_ (s:Str):ACall En 15 [.s s] [] [.b (s==[])] []:=by
 refine aa_ [] Tryz.func15 Tryz.ntmps15 fun C=>?_
 refine .seq (.rg [] ?_)
 refine .seq (.rg [] ?_)
 refine .ret ⟨.inr rfl,Out.pP Tryz.results15 ?_⟩;trivial
def fil (l:List Str):List Str:=l.filter fun w=>!(w==[])
attribute [local go_sem] af_ ah_ in
theorem au0_ (l:List Str) (hl:l.length≤1000000):ACall En 37 [.sl false (ai_ l),.fn (.func 15) [] []] [] [.i .i64 (n6_ (·==[]) l)] []:=by
 refine aa_ [] Tryz.func37 Tryz.ntmps37 fun C=>?_
 refine .seq (.rg [] ?_)
 refine .seq (.seq (.rg [] ?_))
 refine .block (.loopK (fun k:Nat=>⟨[.sl false (ai_ l),.fn (.func 15) [] [],.no,.no,.no,.no,.no,.i .i64 l.length,.i .i64 k,.no,.no,.no,.no,.no,.no,.no,.no,.no,.no],ae_ [],us []⟩) (fun k:Nat=>k≤l.length∧(l.take k).any (·==[])=false) (fun k:Nat=>l.length - k) (0) ?_ ?_ (fun k hI=>?_))
 ·simp
 ·refine Can.wh ?_;trivial
 refine .seq (.rg [] ?_)
 refine .seq (.cB (fun h9=>?_) fun h9=>?_)
 ·refine .skip (.seq (.block (.seq (.rg [] ?_))))
  refine .seq (.rgo [ab_ (amp_ (l.getD k []))] ?_ ?_ (h:=by simp only[go_sem,seval,an_ (show k<l.length by simpa using h9)];rfl))
  ·((simp at h9;simp;omega))
  refine .cB (fun h16=>?_) fun h16=>?_
  ·refine .seq (.rg [] ?_)
   refine .ret ⟨.inr rfl,Out.pP Tryz.results37 ?_⟩;simp at h9;rw[o1_ (d:=[]) h9 hI.2 h16]
  refine .skip (.rg [] ?_)
  refine⟨k+1,?_,?_,?_⟩
  ·simp at h9;refine⟨by omega,?_⟩;rw[i6_ (d:=[]) h9,hI.2,h16];rfl
  ·simp at h9;omega
  refine Can.wh ?_;rw[ac_ (by simp at h9;omega) (by simp at h9;omega)];(try simp)
 refine .exit (.seq (.rg [] ?_))
 refine .ret ⟨.inr rfl,Out.pP Tryz.results37 ?_⟩;simp at h9;have h0:=hI.2;rw[List.take_of_length_le h9]at h0;rw[iu_ h0]
theorem v5_ {l:List Str} (h:l.any (·==[])=false):fil l=l:=by
 refine List.filter_eq_self.2 fun w hw=>?_
 have:=List.any_eq_false.1 h w hw
 simpa using this
theorem a16_ (l:List Str) (k:Nat):(fil (l.take k)).length≤k:=Nat.le_trans (List.length_filter_le _ _) (by rw[List.length_take];omega)
def DelI (l:List Str) (j:Nat) (L:List Str):Prop:=L.length=l.length∧j≤l.length∧(fil (l.take j)).length<j∧L.take (fil (l.take j)).length=fil (l.take j)∧L.drop j=l.drop j
theorem ae0_ {l:List Str} {k:Nat} (hk:k<l.length) (ha:(l.take k).any (·==[])=false) (h:l.getD k []=[]):DelI l (k+1) l∧(fil (l.take (k+1))).length=k:=by
 have e:fil (l.take (k+1))=l.take k:=by
  unfold fil;rw[k6_ hk,if_pos h,List.append_nil];exact v5_ ha
 have hl:(fil (l.take (k+1))).length=k:=by rw[e,List.length_take];omega
 exact⟨⟨rfl,by omega,by omega,by rw[hl,e],rfl⟩,hl⟩
theorem a1y_ {l L:List Str} {j:Nat} (h:DelI l j L) (hj:j<l.length):L.getD j []=l.getD j []:=by
 have:=congrArg (fun x:List Str=>x.getD 0 []) h.2.2.2.2
 simpa[List.getD_eq_getElem?_getD]using this
theorem ag8_ {l L:List Str} {j:Nat} (h:DelI l j L) (hj:j<l.length) (he:l.getD j []=[]):DelI l (j+1) L∧fil (l.take (j+1))=fil (l.take j):=by
 obtain⟨h1,h2,h3,h4,h5⟩:=h
 have e:fil (l.take (j+1))=fil (l.take j):=by unfold fil;rw[k6_ hj,if_pos he,List.append_nil]
 refine⟨⟨h1,by omega,by rw[e];omega,by rw[e];exact h4,?_⟩,e⟩
 rw[←List.drop_drop,h5,List.drop_drop]
theorem amh_ {l L:List Str} {j:Nat} (h:DelI l j L) (hj:j<l.length) (he:l.getD j []≠[]):DelI l (j+1) (L.set (fil (l.take j)).length (l.getD j []))∧(fil (l.take (j+1))).length=(fil (l.take j)).length+1:=by
 obtain⟨h1,h2,h3,h4,h5⟩:=h
 have e:fil (l.take (j+1))=fil (l.take j)++[l.getD j []]:=by unfold fil;rw[k6_ hj,if_neg he]
 have hl:(fil (l.take (j+1))).length=(fil (l.take j)).length+1:=by rw[e];simp
 refine⟨⟨by simp[h1],by omega,by omega,?_,?_⟩,hl⟩
 ·rw[hl,e,List.take_add_one,List.getElem?_set_self (by omega),List.take_set_of_le (Nat.le_refl _),h4];rfl
 rw[List.drop_set_of_lt (by omega),←List.drop_drop,h5,List.drop_drop]
theorem yi_ {l:List Str} (h:n6_ (·==[]) l≠ -1):∃k:Nat,k<l.length∧n6_ (·==[]) l=k∧(l.take k).any (·==[])=false∧l.getD k []=[]:=by
 have ha:l.any (·==[])=true:=by
  cases q:l.any (·==[])with
  |true=>rfl
  |false=>exact absurd (iu_ q) h
 have hx:∃x,x∈l∧(x==[])=true:=List.any_eq_true.1 ha
 have hk:=List.findIdx_lt_length_of_exists hx
 refine⟨l.findIdx (·==[]),hk,by unfold n6_;rw[if_pos ha],List.any_eq_false.2 fun x hx=>?_,?_⟩
 ·obtain⟨j,hj,rfl⟩:=List.getElem_of_mem hx
  rw[List.length_take]at hj
  rw[List.getElem_take]
  have:=List.not_of_lt_findIdx (show j<l.findIdx (·==[]) by omega)
  simpa using this
 have:=List.findIdx_getElem (w:=hk)
 rw[List.getD_eq_getElem?_getD,List.getElem?_eq_getElem hk]
 simpa using this
theorem ark_ (l:List Str) (k:Nat) (s:Str):ai_ (l.set k s)=(ai_ l).set k [.s s]:=by simp[ai_,List.map_set]
attribute [local go_sem] aw_ a5_ af_ ah_ at1_ in
theorem acc_ (l:List Str) (hl:l.length≤1000000):ACall En 14 [.ow 0 1 0 l.length,.fn (.func 15) [] []] [⟨9,1,ai_ l⟩] [.ow 0 1 0 (fil l).length] [⟨9,1,ai_ (fil l++List.replicate (l.length - (fil l).length) [])⟩]:=by
 have hle:=a16_ l
 refine aa_ [0] Tryz.func14 Tryz.ntmps14 fun C=>?_
 refine .seq (.rg [] ?_)
 refine .seq (.rgo [kv_ (au0_ l hl)] ?_ ?_)
 ·simp[List.take_of_length_le,af_,ad_]
 refine .seq (.seq (.rg [] ?_))
 refine .cB (fun h12=>?_) fun h12=>?_
 ·refine .seq (.rg [] ?_)
  refine .ret ⟨.inr rfl,Out.mP Tryz.results14 ?_ ?_⟩
  ·rw[beq_iff_eq]at h12;rw[v5_ (by cases q:l.any (·==[]);rfl;(have:=m6_ (·==[]) l;rw[q,h12]at this;cases this))]
  rw[beq_iff_eq]at h12;rw[v5_ (by cases q:l.any (·==[]);rfl;(have:=m6_ (·==[]) l;rw[q,h12]at this;cases this))];simp
 refine .skip (.seq (.seq (.rg [] ?_)))
 refine .block (.loopK (fun q:Nat × List Str=>⟨[.ow 0 1 0 l.length,.fn (.func 15) [] [],.no,.no,.no,.i .i64 (fil (l.take q.1)).length,.i .i64 q.1,.no,.no,.no,.no,.no,.no,.no,.no,.no,.no,.no,.no,.no,.no,.no,.no,.no,.no,.no,.no,.no,.no,.no,.no,.no,.no,.no,.no,.no,.no,.no,.no,.no,.no,.no],ae_ [(0,⟨9,1,ai_ q.2⟩)],us []⟩) (fun q:Nat × List Str=>DelI l q.1 q.2) (fun q:Nat × List Str=>l.length - q.1) (((n6_ (·==[]) l).toNat+1,l)) ?_ ?_ (fun q hI=>?_))
 ·(obtain⟨k,k1,k2,k3,k4⟩:=yi_ (l:=l) (by simpa using h12));rw[k2];exact(ae0_ k1 k3 k4).1
 ·refine Can.wh ?_;(obtain⟨k,k1,k2,k3,k4⟩:=yi_ (l:=l) (by simpa using h12));rw[k2,ac_ (by omega) (by omega)];exact⟨by rw[show((k:Int)).toNat=k from rfl,(ae0_ k1 k3 k4).2],rfl⟩
 refine .seq (.seq (.rg [] ?_))
 refine .cB (fun h19=>?_) fun h19=>?_
 ·refine .skip (.seqJ (fun u:List Str=>⟨[.ow 0 1 0 l.length,.fn (.func 15) [] [],.no,.no,.no,.i .i64 (fil (l.take (q.1+1))).length,.i .i64 q.1,.no,.no,.no,.no,.no,.no,.no,.no,.no,.no,.no,.no,.no,.no,.no,.no,.no,.no,.no,.no,.no,.no,.no,.no,.no,.no,.no,.no,.no,.no,.no,.no,.no,.no,.no],ae_ [(0,⟨9,1,ai_ u⟩)],us []⟩) (fun u:List Str=>DelI l (q.1+1) u) ?_ (fun u hJ=>?_))
  ·refine .block (.seq (.rgo [] ?_ ?_ (h:=by simp only[go_sem,seval,an_ (show q.1<q.2.length by simp at h19;have:=hI.1;omega),a1y_ hI (by simpa using h19)];rfl)))
   ·simp at h19;have:=hI.1;simp;omega
   refine .seq (.rg [ab_ (amp_ (l.getD q.1 []))] ?_)
   refine .cB (fun h29=>?_) fun h29=>?_
   ·refine .seq (.rgo [] ?_ ?_)
    ·simp at h19;have:=hI.1;have:=hI.2.2.1;simp;omega
    refine .rg [] ?_
    refine Exists.intro (q.2.set (fil (l.take q.1)).length (l.getD q.1 [])) ⟨?_,?_⟩
    ·exact(amh_ hI (by simpa using h19) (by simpa using h29)).1
    refine Can.wk ?_ ?_
    ·(rw[(amh_ hI (by simpa using h19) (by simpa using h29)).2,ac_ (by omega) (by have:=hI.2.2.1;simp at h19;omega)];rfl)
    first|(rw[ark_,an_ (show(fil (l.take q.1)).length<q.2.length by have:=hI.1;have:=hI.2.2.1;simp at h19;omega)];rfl)
   refine .skip ?_
   refine⟨q.2,?_,?_⟩
   ·exact(ag8_ hI (by simpa using h19) (by simpa using h29)).1
   refine Can.wk ?_ ?_
   ·(rw[(ag8_ hI (by simpa using h19) (by simpa using h29)).2];done)
   trivial
  refine .rg [] ?_
  refine Exists.intro ((q.1+1,u)) ⟨?_,?_,?_⟩
  ·exact hJ
  ·simp at h19;dsimp only;omega
  refine Can.wh ?_;rw[ac_ (by simp at h19;omega) (by simp at h19;omega)];rfl
 refine .exit (.seq (.rgSo [0] [at1_ En 9 0 1 (fil (l.take q.1)).length (l.length - (fil (l.take q.1)).length) [.s []] (ai_ q.2)] ?_ ?_))
 ·simp only[decide_eq_false_iff_not]at h19;have:=hI.1;have:=hI.2.1;have:=hI.2.2.1;exact⟨by omega,_,_,_,_,rfl,by simp only[go_sem,seval];rfl,rfl,by omega⟩
 refine .seq (.rgo [] ?_ ?_)
 ·have:=hI.2.1;have:=hI.2.2.1;simp;omega
 refine .ret ⟨.inr rfl,Out.mP Tryz.results14 ?_ ?_⟩
 ·simp only[decide_eq_false_iff_not]at h19;rw[List.take_of_length_le (by omega)];rfl
 simp only[decide_eq_false_iff_not]at h19;have e:=hI.2.2.2.1;have e1:=hI.1;rw[List.take_of_length_le (l:=l) (by omega)]at e ⊢;rw[List.drop_of_length_le (by rw[af_];have:=hI.2.2.1;rw[List.take_of_length_le (l:=l) (by omega)]at this;omega),List.append_nil,fr_,←e];simp[ai_,List.map_take]
end
section
open Go.RowKit
theorem a3i_ (l:List Str) (n:Nat):(ai_ l).take n=ai_ (l.take n):=by simp[ai_,List.map_take]
theorem a1v_ (l r:List Str):(fil l++r).take (fil l).length=fil l:=List.take_left
theorem a27_ (l r:List Str):((fil l).length≤(fil l++r).length)=True:=eq_true (by rw[List.length_append];omega)
theorem a2q_ (l:List Str):(l.length≤(fil l++List.replicate (l.length - (fil l).length) []).length)=True:=eq_true (by rw[List.length_append,List.length_replicate];omega)
theorem a3c_ (z n:Nat) (r:List (List V)):frz 32 z r (bA 14 n)=bA 14 n:=by cases n<;>rfl
theorem a04_ (z n:Nat) (r:List (List V)):frz 32 z r (bB 20 n)=bB 20 n:=by cases n<;>rfl
theorem aax_ {s:Str} {l:List Str} {k:Nat} (h:DkI s l k):(gk l k).2.1.length≤10000060000:=h.2.2.2.2
attribute [local go_sem] aw_ a5_ a3_ af_ ah_ hx_ k2_ a0l_ fo_ a3i_ a1v_ a27_ a2q_ a3c_ a04_ in
theorem i7_ (s:Str) (hs:s.length≤281474976710656):ACall En 6 [.s s] [] [.s (ds_ s)] []:=by
 obtain⟨iB,i1,i2,i3⟩:=bldI
 have hc:s.length≤20000→(bx_ 10 s).length≤20001∧∀x∈bx_ 10 s,x.length≤20000:=fun h=>by
  have:=j7_ 10 s
  exact⟨by have:=gu_ (bx_ 10 s);omega,fun x hx=>by have:=mh_ hx;omega⟩
 have hd:ds_ s=if 20000<s.length then [108,111,110,103,10]else(goD (bx_ 10 s) 0 (f4_ []) []).2.1:=rfl
 have C0:=fun h:s.length≤20000=>aty_ 10 s (by omega)
 generalize bx_ 10 s=l at *
 refine aa_ [] Tryz.func6 Tryz.ntmps6 fun C=>?_
 refine .seq (.rg [] ?_)
 refine .seq (.seq (.rg [] ?_))
 refine .cB (fun h10=>?_) fun h10=>?_
 ·refine .seq (.rg [] ?_)
  refine .ret ⟨.inr rfl,Out.pP Tryz.results6 ?_⟩;simp only[decide_eq_true_eq]at h10;rw[hd,if_pos (by omega)]
 refine .skip (.seq (.rg [ab_ (ang_ [] (by decide))] ?_))
 refine .seq (.rgSo [4] [yj_ En 39 14] ?_ ?_)
 ·exact⟨_,i1,i3⟩
 refine .seqJ (fun p:Nat × Str=>⟨[.no,.no,.no,.no,.pt 14 2 0 0,.no,.no,.no,.no,.no,.no,.no,.no,.no,.no,.no,.no,.no,.no,.no,.no,.no,.no,.no,.no,.no,.no,.no,.no,.no,.no,.no,.no,.no,.no,.no,.no,.no,.no,.no,.no],ae_ [(14,⟨39,2,[[bA 14 p.1,bB 20 p.2.length]]⟩),(20,⟨5,1,byR p.2⟩)],us [14,20]⟩) (fun p:Nat × Str=>p.2=(goD l 0 (f4_ []) []).2.1∧p.2.length≤20000000000) ?_ (fun p hJ=>?_)
 ·refine .seq (.rgo [a0_ (s.length≤20000) C0] ?_ ?_)
  ·simp only[decide_eq_false_iff_not]at h10;omega
  refine .block (.loopK (fun q:Nat × Nat=>⟨[.no,.no,.no,.pt 23 1 0 0,.pt 14 2 0 0,.no,.no,.no,.no,.no,.no,.no,.no,.no,.no,.sl false (ai_ l),.i .i64 l.length,.i .i64 q.1,.no,.no,.no,.no,.no,.no,.no,.no,.no,.no,.no,.no,.no,.no,.no,.no,.no,.no,.no,.no,.no,.no,.no],ae_ [(23,⟨36,1,[[.sl false (pgR (gk l q.1).1)]]⟩),(14,⟨39,2,[[bA 14 q.2,bB 20 (gk l q.1).2.1.length]]⟩),(20,⟨5,1,byR (gk l q.1).2.1⟩)],us [14,20,23]⟩) (fun q:Nat × Nat=>DkI s l q.1) (fun q:Nat × Nat=>l.length - q.1) ((0,0)) ?_ ?_ (fun q hI=>?_))
  ·simp only[decide_eq_false_iff_not]at h10;exact⟨Nat.zero_le _,by omega,rfl,afm_,Nat.zero_le _⟩
  ·refine Can.trans (Can.newName 20 5 1 (by simp only[go_sem,seval]<;>rfl) (by simp only[go_sem,seval]<;>rfl)) ?_
   refine Can.wm ?_;exact⟨rfl,rfl,rfl⟩
  refine .seq (.rg [] ?_)
  refine .seq (.cB (fun h18=>?_) fun h18=>?_)
  ·refine .skip (.seqJ (fun u:Nat=>⟨[.no,.no,.no,.pt 23 1 0 0,.pt 14 2 0 0,.no,.no,.no,.no,.no,.no,.no,.no,.no,.no,.sl false (ai_ l),.i .i64 l.length,.i .i64 q.1,.no,.no,.no,.no,.no,.no,.no,.no,.no,.no,.no,.no,.no,.no,.no,.no,.no,.no,.no,.no,.no,.no,.no],ae_ [(23,⟨36,1,[[.sl false (pgR (gk l (q.1+1)).1)]]⟩),(14,⟨39,2,[[bA 14 u,bB 20 (gk l (q.1+1)).2.1.length]]⟩),(20,⟨5,1,byR (gk l (q.1+1)).2.1⟩)],us [14,20,23]⟩) (fun u:Nat=>DkI s l (q.1+1)) ?_ (fun u hJ=>?_))
   ·refine .block (.seq (.rgo [] ?_ ?_ (h:=by simp only[go_sem,seval,an_ (show q.1<l.length by simpa using h18)];rfl)))
    ·simp only[decide_eq_true_eq]at h18;simp;omega
    refine .seq (.rgo [fo_ [] [32] (q.1<l.length∧s.length≤20000) (fun h=>af9_ 32 (l.getD q.1 []) (by have:=(hc h.2).2 _ (ag_ (d:=[]) h.1);omega)),fo_ [32] [] (q.1<l.length∧s.length≤20000) (fun h=>acc_ (bx_ 32 (l.getD q.1 [])) (by have:=ag3_ 32 (l.getD q.1 []);have:=(hc h.2).2 _ (ag_ (d:=[]) h.1);omega))] ?_ ?_)
    ·simp only[decide_eq_true_eq]at h18;simp;exact⟨by omega,hI.2.1⟩
    refine .seq (.seq (.rg [] ?_))
    refine .cB (fun h27=>?_) fun h27=>?_
    ·refine .exit ?_
     refine⟨q.2,?_,?_⟩
     ·exact hI.skip (by simpa using h18) (eq0 h27)
     refine Can.wm ?_;(rw[abl_ (by simpa using h18) hI.2.2.1 (eq0 h27)];exact⟨rfl,rfl,rfl⟩)
    refine .skip (.seq (.seq (.rg [a0l_ [14,20] (a49_ q.2 (gk l q.1).2.1.length (gk l q.1).2.1)] ?_)))
    refine .cB (fun h33=>?_) fun h33=>?_
    ·refine .seq (.rg [jb_ [14,20] [14,40] (dx_ q.2 (gk l q.1).2.1.length (gk l q.1).2.1 [102,117,108,108,10] rfl (by have:=aax_ hI;simp only[List.length_cons,List.length_nil];omega))] ?_)
     refine .exit ?_
     refine Exists.intro ((1,(gk l q.1).2.1++[102,117,108,108,10])) ⟨?_,?_⟩
     ·(refine⟨(alb_ (by simpa using h18) hI.2.2.1 (ne0 h27) (aso_ h33)).symm,?_⟩;have:=aax_ hI;simp only[List.length_append,List.length_cons,List.length_nil];omega)
     refine Can.trans (Can.sX 40 20) ?_
     refine Can.wm ?_;rw[List.length_append];rfl
    refine .skip (.can (Can.frz 32 (by simp only[go_sem,seval]<;>rfl) (by simp only[go_sem,seval]) (by simp only[go_sem,seval]<;>rfl) (by simp only[go_sem,seval]<;>rfl)) ?_)
    refine .rgo [fo_ [23] [] (bi_ (gk l q.1).1=true∧fil (bx_ 32 (l.getD q.1 []))≠[]∧q.1<l.length∧s.length≤20000) (fun h=>a2r_ (gk l q.1).1 (fil (bx_ 32 (l.getD q.1 []))) h.1 (by have:kf_ (fil (bx_ 32 (l.getD q.1 [])))≤(l.getD q.1 []).length+1:=zx_ (l.getD q.1 []);have:=(hc h.2.2.2).2 _ (ag_ (d:=[]) h.2.2.1);omega) (List.length_pos_iff.2 h.2.1)),jb_ [14,20] [14,40] (dx_ q.2 (gk l q.1).2.1.length (gk l q.1).2.1 (bw_ (gk l q.1).1 (fil (bx_ 32 (l.getD q.1 [])))).2 rfl (by have:=aax_ hI;have:=wx_ (gk l q.1).1 (fil (bx_ 32 (l.getD q.1 [])));omega))] ?_ ?_
    ·and_intros<;>first|decide|exact hI.2.2.2.1|exact ne0 h27|exact hI.2.1|(simp only[decide_eq_true_eq]at h18;omega)
    refine⟨1,?_,?_⟩
    ·exact hI.step (by simpa using h18) (ne0 h27) (abr_ h33)
    refine Can.trans (Can.sX 40 20) ?_
    refine Can.wm ?_;(rw[aam_ (by simpa using h18) hI.2.2.1 (ne0 h27) (abr_ h33),List.length_append];exact⟨rfl,rfl,rfl⟩)
   refine .rg [] ?_
   refine Exists.intro ((q.1+1,u)) ⟨?_,?_,?_⟩
   ·exact hJ
   ·simp at h18;dsimp only;omega
   refine Can.wh ?_;have w:=hc hI.2.1;simp at h18;rw[ac_ (by omega) (by omega)];rfl
  refine .exit ?_
  refine Exists.intro ((q.2,(gk l q.1).2.1)) ⟨?_,?_⟩
  ·(simp only[decide_eq_false_iff_not]at h18;refine⟨congrArg (fun x=>x.2.1) (ap7_ (show l.length≤q.1 by omega)),?_⟩;have:=aax_ hI;dsimp only;omega)
  refine Can.wm ?_;trivial
 refine .seq (.rg [jb_ [14,20] [14] (lx_ p.1 p.2.length p.2 rfl (by have:=hJ.2;omega))] ?_)
 refine .ret ⟨.inr rfl,Out.pP Tryz.results6 ?_⟩;simp only[decide_eq_false_iff_not]at h10;rw[hd,if_neg (by omega),hJ.1]
end
section
def letL (b:Str) (p:Int) (i:Nat):Sl:=⟨1,([[120],[121],[122]]:List Str).getD i [],wInt,.mk 1 (ay_ b (p+i) 9) [] [],E0⟩
def kg_ (b:Str) (p:Int) (k:Nat):List Sl:=(List.range k).map (letL b p)
theorem xa_ (b:Str) (p:Int) (k:Nat):kg_ b p (k+1)=kg_ b p k++[letL b p k]:=by simp[kg_,List.range_succ]
theorem q8_ (b:Str) (p:Int) (k:Nat):(kg_ b p k).length=k:=by simp[kg_]
def dk_ (b:Str):Nat→Int→List Sl × Int
 |0,p=>([],p)
 |n+1,p=>((dk_ b n p).1++[(bm_ b (dk_ b n p).2).1],(bm_ b (dk_ b n p).2).2)
def okS (s:Sl):Bool:=d6_ s&&wf s.expr&&wf s.thn
theorem mb_ (b:Str) {p:Int} (hp:0≤p) (hp2:p<1000000):∀n:Nat,n≤1000→p≤(dk_ b n p).2∧(dk_ b n p).2≤p+300 * n∧(dk_ b n p).1.length=n∧(dk_ b n p).1.all okS=true
 |0,_=>by simp[dk_]
 |n+1,h=>by
  obtain⟨h1,h2,h3,h4⟩:=mb_ b hp hp2 n (by omega)
  obtain⟨q1,q2,q3,q4,q5,_⟩:=lv_ b (p:=(dk_ b n p).2) (by omega) (by omega)
  simp only[dk_,List.length_append,List.length_singleton,List.all_append,List.all_cons,List.all_nil,h4,okS,q3,q4,q5,Bool.and_self,Bool.and_true]
  refine⟨by omega,by omega,by omega,trivial⟩
theorem ayr_ (b:Str) {p:Int} (hp:0≤p) (hp2:p<1000000) (i:Nat) (hi:i<3):okS (letL b p i)=true:=by
 have hk:i=0∨i=1∨i=2:=by omega
 rcases hk with rfl|rfl|rfl<;>simp[okS,letL,d6_,sm,sms,wf,wfs,wInt,E0]
theorem adf_ (b:Str) {p:Int} (hp:0≤p) (hp2:p<1000000):∀k,k≤3→(kg_ b p k).all okS=true
 |0,_=>rfl
 |k+1,h=>by rw[xa_,List.all_append,adf_ b hp hp2 k (by omega)];simp[ayr_ b hp hp2 k (by omega)]
def dPa (b:Str) (p:Int):List Sl × Int:=if 0<ay_ b p 4 then(kg_ b (p+1) 3,p+4)else([],p+1)
def dPn (b:Str) (p:Int):Nat:=(1+ay_ b (dPa b p).2 6).toNat
def c0_ (b:Str) (p:Int):List Sl × Int:=((dPa b p).1++(dk_ b (dPn b p) ((dPa b p).2+1)).1,(dk_ b (dPn b p) ((dPa b p).2+1)).2)
theorem av6_ (b:Str) {p:Int} (hp:0≤p) (hp2:p<100000):p≤(dPa b p).2∧(dPa b p).2≤p+4∧(dPa b p).1.length≤3∧(dPa b p).1.all okS=true:=by
 unfold dPa;split
 ·exact⟨by dsimp only;omega,by dsimp only;omega,by simp[q8_],adf_ b (by omega) (by omega) 3 (by omega)⟩
 exact⟨by dsimp only;omega,by dsimp only;omega,by simp,rfl⟩
theorem au4_ (b:Str) {p:Int} (hp:0≤p) (hp2:p<100000):1≤dPn b p∧dPn b p≤6∧(dPn b p:Int)=1+ay_ b (dPa b p).2 6:=by
 have h:=av6_ b hp hp2
 have:=cl_ b (p:=(dPa b p).2) (n:=6) (by omega) (by omega) (by omega)
 unfold dPn;omega
theorem abn_ (b:Str) {p:Int} (hp:0≤p) (hp2:p<100000):p≤(c0_ b p).2∧(c0_ b p).2≤p+2000∧(c0_ b p).1.length≤9∧1≤(c0_ b p).1.length∧(c0_ b p).1.all okS=true:=by
 obtain⟨h1,h2,h3,h4⟩:=av6_ b hp hp2
 obtain⟨n1,n2,n3⟩:=au4_ b hp hp2
 obtain⟨q1,q2,q3,q4⟩:=mb_ b (p:=(dPa b p).2+1) (by omega) (by omega) (dPn b p) (by omega)
 unfold c0_
 exact⟨by dsimp only;omega,by dsimp only;omega,by simp only[List.length_append];omega,by simp only[List.length_append];omega,by simp only[List.all_append,h4,q4,Bool.and_self]⟩
theorem aqi_ {s:Sl} (h:okS s=true):d6_ s=true∧wf s.expr=true∧wf s.thn=true:=by
 simp only[okS,Bool.and_eq_true]at h;exact⟨h.1.1,h.1.2,h.2⟩
theorem axf_ {k:Nat} (h:k<3):([[V.s [120]],[V.s [121]],[V.s [122]]]:List (List V)).getD k []=[.s (([[120],[121],[122]]:List Str).getD k [])]:=by
 have hk:k=0∨k=1∨k=2:=by omega
 rcases hk with rfl|rfl|rfl<;>rfl
theorem av7_ (b:Str) (p:Int) (k:Nat):sC (letL b p k)=[.i .i64 1,.s (([[120],[121],[122]]:List Str).getD k []),.s wInt,.i .i64 1,.i .i64 (ay_ b (p+k) 9),.s [],.sl false [],.i .i64 0,.i .i64 0,.s [],.sl false []]:=by
 rw[a9_];simp only[letL,E.kind_mk,E.n_mk,E.s_mk,E.kids_mk,fw_,fs_,ft_,bq_,b6_]
theorem awn_ (b:Str) (p:Int) (k:Nat):sR (kg_ b p (k+1))=sR (kg_ b p k)++[sC (letL b p k)]:=by rw[xa_,aim_];rfl
theorem z7_:∀(a:List (List V)) (r r':List V),ler (a++[r]) (a++[r'])=les r r'
 |[],r,r'=>by simp[ler]
 |x::a,r,r'=>by have:=z7_ a r r';simp[ler,fu_,this]
theorem w9_ (b:Str) (p:Int):∀n:Nat,(dk_ b n p).1.length=n
 |0=>rfl
 |n+1=>by simp[dk_,w9_ b p n]
theorem axb_ (s:Sl):sR [s]=[sC s]:=rfl
theorem ag9_ (b:Str) (n:Nat) (p:Int):dk_ b (n+1) p=((dk_ b n p).1++[(bm_ b (dk_ b n p).2).1],(bm_ b (dk_ b n p).2).2):=rfl
attribute [local go_sem] z7_ List.length_append w9_ aw_ a5_ dy_ c3_ a9_ e3_ ep_ in
theorem am7_ (b:Str) (p:Int) (hb:b.length≤2000) (hp:0≤p) (hp2:p<100000):ACall En 21 [.pt 0 2 0 0] [rdB b p] [.ow 1 11 0 (c0_ b p).1.length] [rdB b (c0_ b p).2,⟨58,11,sR (c0_ b p).1⟩]:=by
 obtain⟨h1,h2,h3,h4⟩:=av6_ b hp hp2
 obtain⟨n1,n2,n3⟩:=au4_ b hp hp2
 have e1:decide (ay_ b p 4 > 0)=true→dPa b p=(kg_ b (p+1) 3,p+4):=fun h=>by unfold dPa;rw[if_pos (by simpa using h)]
 have e2:decide (ay_ b p 4 > 0)=false→dPa b p=([],p+1):=fun h=>by unfold dPa;rw[if_neg (by simpa using h)]
 have D:=fun n (hn:n≤6)=>mb_ b (p:=(dPa b p).2+1) (by omega) (by omega) n (by omega)
 refine aa_ [0,60] Tryz.func21 Tryz.ntmps21 fun C=>?_
 refine .seq (.rg [] ?_)
 refine .seq (.rg [] ?_)
 refine .seqJ (fun u:Unit=>⟨[.pt 0 2 0 0,.no,.no,.ow 60 11 0 (dPa b p).1.length,.no,.no,.no,.no,.no,.no,.no,.no,.no,.no,.no,.no,.no,.no,.no,.no,.no,.no,.no,.no,.no,.no,.no,.no,.no,.no,.no,.no,.no,.no,.no,.no,.no,.no],ae_ [(0,rdB b (dPa b p).2),(60,⟨58,11,sR (dPa b p).1⟩)],us [60]⟩) (fun u:Unit=>True) ?_ (fun u hJ=>?_)
 ·refine .seq (.rg [at_ [0] [] (c5_ b p 4 hb hp (by omega))] ?_)
  refine .cB (fun h9=>?_) fun h9=>?_
  ·refine .seq (.rg [] ?_)
   refine .block (.loopK (fun k:Nat=>⟨[.pt 0 2 0 0,.no,.no,.ow 60 11 0 k,.i .i64 k,.no,.no,.no,.no,.no,.no,.no,.no,.no,.no,.no,.no,.no,.no,.no,.no,.no,.no,.no,.no,.no,.no,.no,.no,.no,.no,.no,.no,.no,.no,.no,.no,.no],ae_ [(0,rdB b (p+1+k)),(60,⟨58,11,sR (kg_ b (p+1) k)⟩)],us [60]⟩) (fun k:Nat=>k≤3) (fun k:Nat=>3 - k) (0) ?_ ?_ (fun k hI=>?_))
   ·simp
   ·refine Can.trans (Can.ownSlot 3 60 58 11 (by simp only[go_sem,seval]<;>rfl) (by simp only[go_sem,seval]) (by simp only[go_sem,seval]<;>rfl)) ?_
    refine Can.wk ?_ ?_
    ·trivial
    simp[kg_,sR]
   refine .seq (.seq (.rg [] ?_))
   refine .cB (fun h11=>?_) fun h11=>?_
   ·refine .skip (.seq (.block (.rgDo [at_ [0] [] (c5_ b (p+1+k) 9 hb (by omega) (by omega))] ?_ ?_ (h:=by simp only[go_sem,seval,axf_ (show k<3 by simp at h11;omega)];rfl))))
    ·simp only[decide_eq_true_eq]at h11;simp[c7_,q8_];omega
    refine .rg [] ?_
    refine⟨k+1,?_,?_,?_⟩
    ·simp at h11;omega
    ·simp at h11;omega
    refine Can.trans (Can.sX 34 60) ?_
    refine Can.trans (Can.leAt 60 (sR (kg_ b (p+1) k)++[[.i .i64 1,.s (([[120],[121],[122]]:List Str).getD k []),.s [105,110,116],.i .i64 1,.i .i64 (ay_ b (p+1+k) 9),.s [],.sl false [],.i .i64 0,.i .i64 0,.s [],.sl false []]]) (by simp only[go_sem,seval]<;>rfl) (by simp only[go_sem,seval,ler,les,leV]<;>(first|trivial|simp)) (by simp only[go_sem,seval]<;>rfl)) ?_
    refine Can.wk ?_ ?_
    ·rw[ac_ (by omega) (by omega)];simp
    rw[show p+1+(k:Int)+1=p+1+((k+1:Nat):Int) by omega,awn_,av7_];simp[wInt]
   refine .exit ?_
   refine Exists.intro (()) ⟨?_,?_⟩
   ·trivial
   refine Can.wk ?_ ?_
   ·(have q:=e1 h9;simp at h11;(obtain rfl:k=3:=(by omega));rw[q];simp[q8_];done)
   (have q:=e1 h9;simp at h11;(obtain rfl:k=3:=(by omega));rw[q];simp;omega)
  refine .skip ?_
  refine Exists.intro (()) ⟨?_,?_⟩
  ·trivial
  refine Can.trans (Can.ownSlot 3 60 58 11 (by simp only[go_sem,seval]<;>rfl) (by simp only[go_sem,seval]) (by simp only[go_sem,seval]<;>rfl)) ?_
  refine Can.wk ?_ ?_
  ·(have q:=e2 h9;rw[q];simp;done)
  (have q:=e2 h9;rw[q];simp[sR];done)
 refine .seq (.seq (.rg [at_ [0] [] (c5_ b (dPa b p).2 6 hb (by omega) (by omega))] ?_ (h:=by simp only[go_sem,seval,ac_ (show -9223372036854775808≤1+ay_ b (dPa b p).2 6 by omega) (by omega)];rfl)))
 refine .block (.loopK (fun n:Nat=>⟨[.pt 0 2 0 0,.no,.no,.ow 60 11 0 ((dPa b p).1.length+n),.no,.i .i64 ((dPn b p - n:Nat):Int),.no,.no,.no,.no,.no,.no,.no,.no,.no,.no,.no,.no,.no,.no,.no,.no,.no,.no,.no,.no,.no,.no,.no,.no,.no,.no,.no,.no,.no,.no,.no,.no],ae_ [(0,rdB b (dk_ b n ((dPa b p).2+1)).2),(60,⟨58,11,sR ((dPa b p).1++(dk_ b n ((dPa b p).2+1)).1)⟩)],us [60]⟩) (fun n:Nat=>n≤dPn b p) (fun n:Nat=>dPn b p - n) (0) ?_ ?_ (fun n hI=>?_))
 ·simp
 ·refine Can.wk ?_ ?_
  ·rw[←n3];simp
  simp[dk_]
 refine .seq (.seq (.rg [] ?_))
 refine .cB (fun h29=>?_) fun h29=>?_
 ·refine .skip (.seq (.block (.rgo [at_ [0] [] (wz_ b (dk_ b n ((dPa b p).2+1)).2 hb (by have:=mb_ b (p:=(dPa b p).2+1) (by omega) (by omega) n (by omega);omega) (by have:=mb_ b (p:=(dPa b p).2+1) (by omega) (by omega) n (by omega);omega))] ?_ ?_)))
  ·simp only[decide_eq_true_eq]at h29;have q:=D n (by omega);simp[dy_];omega
  refine .rg [] ?_
  refine⟨n+1,?_,?_,?_⟩
  ·simp at h29;omega
  ·simp at h29;omega
  refine Can.trans (Can.sX 46 60) ?_
  refine Can.wk ?_ ?_
  ·simp only[decide_eq_true_eq]at h29;rw[ac_ (by omega) (by omega)];(try simp);omega
  rw[ag9_];simp[aim_,axb_,a9_]
 refine .exit (.seq (.rg [] ?_))
 refine .ret ⟨.inr rfl,Out.mP Tryz.results21 ?_ ?_⟩
 ·(simp at h29;(obtain rfl:n=dPn b p:=(by omega));unfold c0_;simp[(D (dPn b p) n2).2.2.1])
 (simp at h29;(obtain rfl:n=dPn b p:=(by omega));unfold c0_;simp[b7_,c3_])
theorem auw_ (b:Str) (p:Int) (hb:b.length≤2000) (hp:0≤p) (hp2:p<100000):ACall En 21 [.pt 0 2 0 0] [rdB b p] [.sl false (sR (c0_ b p).1)] [rdB b (c0_ b p).2]:=
 ACall.frzL (Lr:=[rdB b (c0_ b p).2]) (am7_ b p hb hp hp2) (by simp) (by simp[er_,frz,dy_,List.take_of_length_le])
end
section
open Go.RowKit
def g2_ (c:Str) (n:Nat):Str:=(List.replicate n c).flatten
theorem r3_ (c:Str) (a b:Nat):g2_ c a++g2_ c b=g2_ c (a+b):=by unfold g2_;rw[←List.flatten_append,List.replicate_append_replicate]
theorem ip_ (c:Str):∀n,(g2_ c n).length=n * c.length
 |0=>by simp[g2_]
 |n+1=>by rw[←r3_ c n 1,List.length_append,ip_ c n,Nat.add_mul];simp[g2_]
theorem wq_ (c:Str) (hc:c.length≤10) (N:Nat) (hN:N≤100000):ACall En 27 [.s c,.i .i64 N] [] [.s (g2_ c N)] []:=by
 have hm:∀n:Nat,(n:Int).tmod 2=((n % 2:Nat):Int):=fun n=>by rw[Int.tmod_eq_emod_of_nonneg (by omega)];rfl
 have hd:∀n:Nat,(n:Int).tdiv 2=((n / 2:Nat):Int):=fun n=>by rw[Int.tdiv_eq_ediv_of_nonneg (by omega)];rfl
 have hL:∀a:Nat,a≤2 * N+1→(g2_ c a).length≤10 * (2 * N+1):=fun a h=>by
  rw[ip_]
  calc a * c.length≤(2 * N+1) * 10:=Nat.mul_le_mul h hc
   _=_:=Nat.mul_comm _ _
 refine aa_ [] Tryz.func27 Tryz.ntmps27 fun C=>?_
 refine .seq (.rg [] ?_)
 refine .seq (.rg [] ?_)
 refine .seq (.block (.loopK (fun q:Nat × Nat × Nat=>⟨[.s (g2_ c q.2.1),.i .i64 q.1,.no,.no,.no,.s (g2_ c q.2.2),.no,.no,.no,.no,.no,.no,.no,.no,.no,.no,.no,.no,.no,.no],ae_ [],us []⟩) (fun q:Nat × Nat × Nat=>q.2.2+q.2.1 * q.1=N∧q.2.1≤2 * N+1∧q.1≤N) (fun q:Nat × Nat × Nat=>q.1) ((N,1,0)) ?_ ?_ (fun q hI=>?_)))
 ·exact⟨by simp,by dsimp only;omega,Nat.le_refl _⟩
 ·refine Can.wh ?_;(try simp[g2_])
 refine .seq (.seq (.rg [] ?_))
 refine .cB (fun h7=>?_) fun h7=>?_
 ·refine .skip (.block (.seqJ (fun p:Nat=>⟨[.s (g2_ c q.2.1),.i .i64 q.1,.no,.no,.no,.s (g2_ c p),.no,.no,.no,.no,.no,.no,.no,.no,.no,.no,.no,.no,.no,.no],ae_ [],us []⟩) (fun p:Nat=>p=q.2.2+(if q.1 % 2=1 then q.2.1 else 0)) ?_ (fun p hJ=>?_)))
  ·refine .seq (.rg [] ?_)
   refine .cB (fun h10=>?_) fun h10=>?_
   ·refine .rgo [] ?_ ?_
    ·((have q2:=pn_ hI.1 (by simpa using h7);have l1:=hL q.2.1 hI.2.1;have l2:=hL q.2.2 (by have:=hI.1;omega);(try simp only[List.length_append]);omega))
    refine⟨q.2.2+q.2.1,?_,?_⟩
    ·rw[hm]at h10;first|(rw[if_pos (by rw[beq_iff_eq]at h10;omega)])|(rw[if_neg (by rw[beq_eq_false_iff_ne]at h10;omega)];rfl)
    refine Can.wh ?_;rw[r3_]
   refine .skip ?_
   refine⟨q.2.2,?_,?_⟩
   ·rw[hm]at h10;first|(rw[if_pos (by rw[beq_iff_eq]at h10;omega)])|(rw[if_neg (by rw[beq_eq_false_iff_ne]at h10;omega)];rfl)
   refine Can.wh ?_;trivial
  refine .seq (.rgo [] ?_ ?_)
  ·((have q2:=pn_ hI.1 (by simpa using h7);have l1:=hL q.2.1 hI.2.1;have l2:=hL q.2.2 (by have:=hI.1;omega);(try simp only[List.length_append]);omega))
  refine .rg [] ?_
  refine Exists.intro ((q.1 / 2,2 * q.2.1,p)) ⟨?_,?_,?_⟩
  ·have q2:=pn_ hI.1 (by simpa using h7);exact⟨by dsimp only;rw[hJ];exact ahv_ hI.1,by dsimp only;omega,by dsimp only;omega⟩
  ·simp at h7;dsimp only;omega
  refine Can.wh ?_;have q2:=pn_ hI.1 (by simpa using h7);exact⟨by rw[r3_];congr 1;omega,by rw[hd,ac_ (by omega) (by have:=hI.2.2;omega)]⟩
 refine .exit (.seq (.rg [] ?_))
 refine .ret ⟨.inr rfl,Out.pP Tryz.results27 ?_⟩;have e:=hI.1;have q1:q.1=0:=(by simpa using h7);rw[q1]at e;simp at e;rw[e]
def outS:List Str:=[[111,117,116,32,48,10],[111,117,116,32,49,10],[111,117,116,32,57,10]]
def ae1_:List Str:=[[108,111,111,107,32,49,32,54,10],[108,111,111,107,32,48,32,48,10],[98,97,99,107,32,49,32,52,10],[108,111,111,107,32,50,32,57,10],[98,97,99,107,32,48,32,48,10],[108,111,111,107,32,57,32,57,10]]
def flyS:List Str:=[[102,108,121,10],[112,117,116,10],[112,117,116,32,120,32,115,97,121,32,49,10],[111,117,116,10],[111,117,116,32,49,32,50,10],[108,111,111,107,32,49,10],[116,101,120,116,32,49,10],[82,85,78,10],[32,114,117,110,32,10],[10],[97,100,100,10],[108,111,111,107,32,45,49,32,48,10]]
def askS:List Str:=[[114,117,110,10],[112,114,105,110,116,10],[98,97,114,101,10],[109,97,112,10],[116,121,112,101,10],[98,97,100,10],[116,101,120,116,10]]
def j8_ (b:Str) (p:Int):Str × Int:=
 if ay_ b p 9=0 then([112,117,116,32]++Lib.itoa (ay_ b (p+1) 5)++[32]++(dTo b (p+1+1)).1++[10],(dTo b (p+1+1)).2)
 else if ay_ b p 9=1 then([105,110,32]++Lib.itoa (ay_ b (p+1) 5)++[32]++(dTo b (p+1+1)).1++[10],(dTo b (p+1+1)).2)
 else if ay_ b p 9=2 then(ofI b (p+1) outS,p+1+1)
 else if ay_ b p 9=3 then(ofI b (p+1) ae1_,p+1+1)
 else if ay_ b p 9=4 then(ofI b (p+1) flyS,p+1+1)
 else(ofI b (p+1) askS,p+1+1)
theorem atd_ {b:Str} {p:Int} (h:(ay_ b p 9==0)=true):j8_ b p=([112,117,116,32]++Lib.itoa (ay_ b (p+1) 5)++[32]++(dTo b (p+1+1)).1++[10],(dTo b (p+1+1)).2):=by unfold j8_;rw[if_pos (by simpa using h)]
theorem apt_ {b:Str} {p:Int} (h0:(ay_ b p 9==0)=false) (h:(ay_ b p 9==1)=true):j8_ b p=([105,110,32]++Lib.itoa (ay_ b (p+1) 5)++[32]++(dTo b (p+1+1)).1++[10],(dTo b (p+1+1)).2):=by unfold j8_;rw[if_neg (by simpa using h0),if_pos (by simpa using h)]
theorem aqp_ {b:Str} {p:Int} (h0:(ay_ b p 9==0)=false) (h1:(ay_ b p 9==1)=false) (h:(ay_ b p 9==2)=true):j8_ b p=(ofI b (p+1) outS,p+1+1):=by unfold j8_;rw[if_neg (by simpa using h0),if_neg (by simpa using h1),if_pos (by simpa using h)]
theorem as4_ {b:Str} {p:Int} (h0:(ay_ b p 9==0)=false) (h1:(ay_ b p 9==1)=false) (h2:(ay_ b p 9==2)=false) (h:(ay_ b p 9==3)=true):j8_ b p=(ofI b (p+1) ae1_,p+1+1):=by unfold j8_;rw[if_neg (by simpa using h0),if_neg (by simpa using h1),if_neg (by simpa using h2),if_pos (by simpa using h)]
theorem ass_ {b:Str} {p:Int} (h0:(ay_ b p 9==0)=false) (h1:(ay_ b p 9==1)=false) (h2:(ay_ b p 9==2)=false) (h3:(ay_ b p 9==3)=false) (h:(ay_ b p 9==4)=true):j8_ b p=(ofI b (p+1) flyS,p+1+1):=by unfold j8_;rw[if_neg (by simpa using h0),if_neg (by simpa using h1),if_neg (by simpa using h2),if_neg (by simpa using h3),if_pos (by simpa using h)]
theorem apx_ {b:Str} {p:Int} (h0:(ay_ b p 9==0)=false) (h1:(ay_ b p 9==1)=false) (h2:(ay_ b p 9==2)=false) (h3:(ay_ b p 9==3)=false) (h4:(ay_ b p 9==4)=false):j8_ b p=(ofI b (p+1) askS,p+1+1):=by unfold j8_;rw[if_neg (by simpa using h0),if_neg (by simpa using h1),if_neg (by simpa using h2),if_neg (by simpa using h3),if_neg (by simpa using h4)]
theorem sg_ {b:Str} {p:Int} {l:List Str} {m:Nat} (h:l.all (fun w=>decide (w.length≤m))=true):(ofI b p l).length≤m:=by
 unfold ofI
 rw[List.getD_eq_getElem?_getD]
 cases e:l[(ay_ b p l.length).toNat]? with
 |none=>simp
 |some w=>have:=List.all_eq_true.1 h w (List.mem_of_getElem? e);simpa using this
theorem a3d_ (b:Str) {p:Int} (hp:0≤p) (hp2:p<1000000):p≤(j8_ b p).2∧(j8_ b p).2≤p+1010∧(j8_ b p).1.length≤1001000:=by
 obtain⟨h1,h2,h3⟩:=a0r_ b (p:=p+1+1) (by omega) (by omega)
 have h4:=cl_ b (p:=p+1) (n:=5) (by omega) (by omega) (by decide)
 have h5:=e8_ (show smI (ay_ b (p+1) 5) by unfold smI;omega)
 have k1:(ofI b (p+1) outS).length≤20:=sg_ (by decide)
 have k2:(ofI b (p+1) ae1_).length≤20:=sg_ (by decide)
 have k3:(ofI b (p+1) flyS).length≤20:=sg_ (by decide)
 have k4:(ofI b (p+1) askS).length≤20:=sg_ (by decide)
 unfold j8_
 repeat' split
 all_goals refine⟨by dsimp only;omega,by dsimp only;omega,?_⟩
 all_goals simp only[List.length_append,List.length_cons,List.length_nil];omega
def dkN (b:Str) (t:Str) (p:Int):Nat→Str × Int
 |0=>(t,p)
 |k+1=>((dkN b t p k).1++(j8_ b (dkN b t p k).2).1,(j8_ b (dkN b t p k).2).2)
theorem auh_ (b:Str) (t:Str) {p:Int} (hp:0≤p) (hp2:p<10000):∀k:Nat,k≤20→p≤(dkN b t p k).2∧(dkN b t p k).2≤p+1010 * k∧(dkN b t p k).1.length≤t.length+1001000 * k
 |0,_=>by simp[dkN]
 |k+1,h=>by
  obtain⟨h1,h2,h3⟩:=auh_ b t hp hp2 k (by omega)
  obtain⟨q1,q2,q3⟩:=a3d_ b (p:=(dkN b t p k).2) (by omega) (by omega)
  simp only[dkN,List.length_append]
  refine⟨by omega,by omega,by omega⟩
def addT (l:List Sl) (k:Nat):Str:=((l.take k).map fun s=>[97,100,100,32]++ec_ s++[10]).flatten
theorem ae3_ {l:List Sl} {k:Nat} (h:k<l.length):addT l (k+1)=addT l k++[97,100,100,32]++ec_ (l.getD k S0)++[10]:=by
 unfold addT
 rw[List.take_add_one,List.getElem?_eq_getElem h,List.getD_eq_getElem?_getD,List.getElem?_eq_getElem h,List.map_append,List.flatten_append]
 simp
theorem w7_ (l:List Sl):∀k,k≤l.length→(addT l k).length≤130 * k
 |0,_=>by simp[addT]
 |k+1,h=>by
  have h1:=w7_ l k (by omega)
  have h2:=m2_ (l.getD k S0)
  rw[ae3_ (by omega)]
  simp only[List.length_append,List.length_cons,List.length_nil];omega
end
section
open Go.RowKit
theorem f1_ (b t:Str) (p:Int) (k:Nat):dkN b t p (k+1)=((dkN b t p k).1++(j8_ b (dkN b t p k).2).1,(j8_ b (dkN b t p k).2).2):=rfl
def dkA (b:Str):Str × Int:=(addT (c0_ b 0).1 (c0_ b 0).1.length,(c0_ b 0).2)
def dkK (b:Str):Nat:=(2+ay_ b (dkA b).2 10).toNat
def dkB (b:Str):Str × Int:=dkN b (dkA b).1 ((dkA b).2+1) (dkK b)
def adc_ (b:Str):Str:=
 if ay_ b (dkB b).2 30=0 then(dkB b).1++g2_ [32] (max 0 (20000 - ((dkB b).1.length:Int)+ay_ b ((dkB b).2+1) 2)).toNat
 else if ay_ b (dkB b).2 30=1 then(dkB b).1++g2_ [98,97,100,10] (ob_ b ((dkB b).2+1) [180,190,200]).toNat
 else(dkB b).1++[114,117,110,10,112,114,105,110,116,10,109,97,112,10]
theorem auc_ (b:Str):0≤(dkA b).2∧(dkA b).2≤2000∧(dkA b).1.length≤1170:=by
 obtain⟨h1,h2,h3,h4,h5⟩:=abn_ b (p:=0) (by decide) (by decide)
 have:=w7_ (c0_ b 0).1 (c0_ b 0).1.length (Nat.le_refl _)
 unfold dkA
 exact⟨h1,by simpa using h2,by dsimp only;omega⟩
theorem avg_ (b:Str):dkK b≤11∧(dkK b:Int)=2+ay_ b (dkA b).2 10:=by
 have h:=auc_ b
 have:=cl_ b (p:=(dkA b).2) (n:=10) (by omega) (by omega) (by decide)
 unfold dkK;omega
theorem az5_ (b:Str):0≤(dkB b).2∧(dkB b).2≤20000∧(dkB b).1.length≤12000000:=by
 have h:=auc_ b
 have k:=avg_ b
 have:=auh_ b (dkA b).1 (p:=(dkA b).2+1) (by omega) (by omega) (dkK b) (by omega)
 unfold dkB;omega
theorem num3 (b:Str) (p:Int):0≤ob_ b p [180,190,200]∧ob_ b p [180,190,200]≤200:=by
 unfold ob_
 generalize (ay_ b p ([180,190,200]:List Int).length).toNat=k
 match k with
 |0|1|2=>decide
 |k+3=>simp
theorem ar5_ (b:Str):(adc_ b).length≤13000000:=by
 have h:=az5_ b
 have h2:=num3 b ((dkB b).2+1)
 have h3:=cl_ b (p:=(dkB b).2+1) (n:=2) (by omega) (by omega) (by decide)
 unfold adc_
 split
 ·rw[List.length_append,ip_];simp only[List.length_cons,List.length_nil];omega
 split
 ·rw[List.length_append,ip_];simp only[List.length_cons,List.length_nil];omega
 simp only[List.length_append,List.length_cons,List.length_nil];omega
attribute [local go_sem] aw_ a5_ a9_ c3_ dy_ ep_ e3_ eo_ ho_ fo_ in
theorem xi_ (c:Str):ACall En 7 [.sl false (byR c)] [] [.s (adc_ (c.take 2000))] []:=by
 have hb:(c.take 2000).length≤2000:=by simp;omega
 have hO:=ao8_ c
 generalize hc:c.take 2000=b at *
 have P0:=auw_ b 0 hb (by decide) (by decide)
 have hA:=auc_ b
 have hK:=avg_ b
 have hB:=az5_ b
 have hN:=auh_ b (dkA b).1 (p:=(dkA b).2+1) (by omega) (by omega)
 have hok:=(abn_ b (p:=0) (by decide) (by decide)).2.2.2.2
 have hl9:=(abn_ b (p:=0) (by decide) (by decide)).2.2.1
 have hT:=w7_ (c0_ b 0).1
 have hd:adc_ b=if ay_ b (dkB b).2 30=0 then(dkB b).1++g2_ [32] (max 0 (20000 - ((dkB b).1.length:Int)+ay_ b ((dkB b).2+1) 2)).toNat
  else if ay_ b (dkB b).2 30=1 then(dkB b).1++g2_ [98,97,100,10] (ob_ b ((dkB b).2+1) [180,190,200]).toNat
  else(dkB b).1++[114,117,110,10,112,114,105,110,116,10,109,97,112,10]:=rfl
 have e1:dkA b=(addT (c0_ b 0).1 (c0_ b 0).1.length,(c0_ b 0).2):=rfl
 have e2:dkB b=dkN b (dkA b).1 ((dkA b).2+1) (dkK b):=rfl
 have n3:=num3 b ((dkB b).2+1)
 have p2:=cl_ b (p:=(dkB b).2+1) (n:=2) (by omega) (by omega) (by decide)
 have hq:∀k,k≤11→0≤(dkN b (dkA b).1 ((dkA b).2+1) k).2∧(dkN b (dkA b).1 ((dkA b).2+1) k).2≤20000∧(dkN b (dkA b).1 ((dkA b).2+1) k).1.length≤12000000:=fun k hk=>by
  have:=hN k (by omega);omega
 have hP:∀k,k≤11→(Lib.itoa (ay_ b ((dkN b (dkA b).1 ((dkA b).2+1) k).2+1) 5)).length≤1000002∧(dTo b ((dkN b (dkA b).1 ((dkA b).2+1) k).2+1+1)).1.length≤300∧(ofI b ((dkN b (dkA b).1 ((dkA b).2+1) k).2+1) outS).length≤20∧(ofI b ((dkN b (dkA b).1 ((dkA b).2+1) k).2+1) ae1_).length≤20∧(ofI b ((dkN b (dkA b).1 ((dkA b).2+1) k).2+1) flyS).length≤20∧(ofI b ((dkN b (dkA b).1 ((dkA b).2+1) k).2+1) askS).length≤20:=fun k hk=>by
  have:=hq k hk
  have h4:=cl_ b (p:=(dkN b (dkA b).1 ((dkA b).2+1) k).2+1) (n:=5) (by omega) (by omega) (by decide)
  exact⟨e8_ (show smI (ay_ b ((dkN b (dkA b).1 ((dkA b).2+1) k).2+1) 5) by unfold smI;omega),(a0r_ b (p:=(dkN b (dkA b).1 ((dkA b).2+1) k).2+1+1) (by omega) (by omega)).2.2,sg_ (by decide),sg_ (by decide),sg_ (by decide),sg_ (by decide)⟩
 refine aa_ [] Tryz.func7 Tryz.ntmps7 fun C=>?_
 refine .seq (.rg [] ?_)
 refine .seq (.rg [at_ [] [13] hO] ?_)
 refine .seq (.rg [] ?_)
 refine .seq (.rg [at_ [13] [] P0] ?_)
 refine .seqJ (fun u:Unit=>⟨[.no,.no,.no,.pt 13 2 0 0,.s (dkA b).1,.no,.no,.no,.no,.no,.no,.no,.no,.no,.no,.no,.no,.no,.no,.no,.no,.no,.no,.no,.no,.no,.no,.no,.no,.no,.no,.no,.no,.no,.no,.no,.no,.no,.no,.no,.no,.no,.no,.no,.no,.no,.no,.no,.no,.no,.no,.no,.no,.no,.no,.no,.no,.no,.no,.no,.no,.no,.no,.no,.no,.no,.no,.no,.no,.no,.no,.no,.no,.no,.no,.no,.no,.no,.no,.no,.no,.no,.no,.no,.no,.no,.no,.no,.no,.no,.no,.no,.no,.no,.no,.no,.no,.no,.no,.no,.no,.no,.no,.no,.no,.no,.no,.no,.no,.no,.no,.no],ae_ [(13,rdB b (dkA b).2)],us [13]⟩) (fun u:Unit=>True) ?_ (fun u hJ=>?_)
 ·refine .seq (.rg [] ?_)
  refine .block (.loopK (fun k:Nat=>⟨[.no,.no,.no,.pt 13 2 0 0,.s (addT (c0_ b 0).1 k),.sl false (sR (c0_ b 0).1),.i .i64 k,.no,.no,.no,.no,.no,.no,.no,.no,.no,.no,.no,.no,.no,.no,.no,.no,.no,.no,.no,.no,.no,.no,.no,.no,.no,.no,.no,.no,.no,.no,.no,.no,.no,.no,.no,.no,.no,.no,.no,.no,.no,.no,.no,.no,.no,.no,.no,.no,.no,.no,.no,.no,.no,.no,.no,.no,.no,.no,.no,.no,.no,.no,.no,.no,.no,.no,.no,.no,.no,.no,.no,.no,.no,.no,.no,.no,.no,.no,.no,.no,.no,.no,.no,.no,.no,.no,.no,.no,.no,.no,.no,.no,.no,.no,.no,.no,.no,.no,.no,.no,.no,.no,.no,.no,.no],ae_ [(13,rdB b (c0_ b 0).2)],us [13]⟩) (fun k:Nat=>k≤(c0_ b 0).1.length) (fun k:Nat=>(c0_ b 0).1.length - k) (0) ?_ ?_ (fun k hI=>?_))
  ·exact Nat.zero_le _
  ·refine Can.wh ?_;rfl
  refine .seq (.seq (.rg [] ?_))
  refine .cB (fun h15=>?_) fun h15=>?_
  ·refine .skip (.seq (.block (.rgo [a0_ (k<(c0_ b 0).1.length) (fun h=>le_ ((c0_ b 0).1.getD k S0) (aqi_ (List.all_eq_true.1 hok _ (ag_ h))).1)] ?_ ?_ (h:=by simp only[go_sem,seval,j6_ (show k<(c0_ b 0).1.length by simpa using h15)];rfl))))
   ·have hk:k<(c0_ b 0).1.length:=(by simp only[decide_eq_true_eq]at h15;omega);have w1:=hT k hI;have w2:=m2_ ((c0_ b 0).1.getD k S0);and_intros<;>first|trivial|rfl|decide|omega|(simp only[List.length_append,List.length_cons,List.length_nil];omega)
   refine .rg [] ?_
   refine⟨k+1,?_,?_,?_⟩
   ·simp at h15;omega
   ·simp at h15;omega
   refine Can.wh ?_;simp at h15;rw[ae3_ h15,ac_ (by omega) (by omega)];exact⟨rfl,rfl⟩
  refine .exit ?_
  refine Exists.intro (()) ⟨?_,?_⟩
  ·trivial
  refine Can.wk ?_ ?_
  ·simp only[decide_eq_false_iff_not]at h15;have e:k=(c0_ b 0).1.length:=(by omega);rw[e];rfl
  rfl
 refine .seqJ (fun u:Unit=>⟨[.no,.no,.no,.pt 13 2 0 0,.s (dkB b).1,.no,.no,.no,.no,.no,.no,.no,.no,.no,.no,.no,.no,.no,.no,.no,.no,.no,.no,.no,.no,.no,.no,.no,.no,.no,.no,.no,.no,.no,.no,.no,.no,.no,.no,.no,.no,.no,.no,.no,.no,.no,.no,.no,.no,.no,.no,.no,.no,.no,.no,.no,.no,.no,.no,.no,.no,.no,.no,.no,.no,.no,.no,.no,.no,.no,.no,.no,.no,.no,.no,.no,.no,.no,.no,.no,.no,.no,.no,.no,.no,.no,.no,.no,.no,.no,.no,.no,.no,.no,.no,.no,.no,.no,.no,.no,.no,.no,.no,.no,.no,.no,.no,.no,.no,.no,.no,.no],ae_ [(13,rdB b (dkB b).2)],us [13]⟩) (fun u:Unit=>True) ?_ (fun u hJ=>?_)
 ·refine .seq (.rg [at_ [13] [] (c5_ b (dkA b).2 10 hb (by omega) (by omega))] ?_)
  refine .block (.loopK (fun k:Nat=>⟨[.no,.no,.no,.pt 13 2 0 0,.s (dkN b (dkA b).1 ((dkA b).2+1) k).1,.no,.no,.i .i64 ((dkK b:Int) - k),.no,.no,.no,.no,.no,.no,.no,.no,.no,.no,.no,.no,.no,.no,.no,.no,.no,.no,.no,.no,.no,.no,.no,.no,.no,.no,.no,.no,.no,.no,.no,.no,.no,.no,.no,.no,.no,.no,.no,.no,.no,.no,.no,.no,.no,.no,.no,.no,.no,.no,.no,.no,.no,.no,.no,.no,.no,.no,.no,.no,.no,.no,.no,.no,.no,.no,.no,.no,.no,.no,.no,.no,.no,.no,.no,.no,.no,.no,.no,.no,.no,.no,.no,.no,.no,.no,.no,.no,.no,.no,.no,.no,.no,.no,.no,.no,.no,.no,.no,.no,.no,.no,.no,.no],ae_ [(13,rdB b (dkN b (dkA b).1 ((dkA b).2+1) k).2)],us [13]⟩) (fun k:Nat=>k≤dkK b) (fun k:Nat=>dkK b - k) (0) ?_ ?_ (fun k hI=>?_))
  ·exact Nat.zero_le _
  ·refine Can.wk ?_ ?_
   ·rw[ac_ (by omega) (by omega)];exact⟨rfl,by omega⟩
   rfl
  refine .seq (.seq (.rg [] ?_))
  refine .cB (fun h31=>?_) fun h31=>?_
  ·refine .skip (.seqJ (fun u:Unit=>⟨[.no,.no,.no,.pt 13 2 0 0,.s (dkN b (dkA b).1 ((dkA b).2+1) (k+1)).1,.no,.no,.i .i64 ((dkK b:Int) - k),.no,.no,.no,.no,.no,.no,.no,.no,.no,.no,.no,.no,.no,.no,.no,.no,.no,.no,.no,.no,.no,.no,.no,.no,.no,.no,.no,.no,.no,.no,.no,.no,.no,.no,.no,.no,.no,.no,.no,.no,.no,.no,.no,.no,.no,.no,.no,.no,.no,.no,.no,.no,.no,.no,.no,.no,.no,.no,.no,.no,.no,.no,.no,.no,.no,.no,.no,.no,.no,.no,.no,.no,.no,.no,.no,.no,.no,.no,.no,.no,.no,.no,.no,.no,.no,.no,.no,.no,.no,.no,.no,.no,.no,.no,.no,.no,.no,.no,.no,.no,.no,.no,.no,.no],ae_ [(13,rdB b (dkN b (dkA b).1 ((dkA b).2+1) (k+1)).2)],us [13]⟩) (fun u:Unit=>True) ?_ (fun u hJ=>?_))
   ·refine .block (.seq (.rgo [fo_ [13] [] (k<dkK b) (fun h=>c5_ b ((dkN b (dkA b).1 ((dkA b).2+1) k).2) 9 hb (by have:=hq k (by omega);omega) (by have:=hq k (by omega);omega))] ?_ ?_))
    ·have hkk:k<dkK b:=(by simp only[decide_eq_true_eq]at h31;omega);have w1:=hq k (by omega);have w2:=hP k (by omega);and_intros<;>first|trivial|rfl|decide|omega|(simp only[List.length_append,List.length_cons,List.length_nil];omega)
    refine .block (.seq (.rg [] ?_))
    refine .cB (fun h41=>?_) fun h41=>?_
    ·refine .rgo [fo_ [13] [] (k<dkK b) (fun h=>c5_ b ((dkN b (dkA b).1 ((dkA b).2+1) k).2+1) 5 hb (by have:=hq k (by omega);omega) (by have:=hq k (by omega);omega)),a0_ (k<dkK b) (fun h=>hv_ (ay_ b ((dkN b (dkA b).1 ((dkA b).2+1) k).2+1) 5) (by have:=hq k (by omega);have:=cl_ b (p:=(dkN b (dkA b).1 ((dkA b).2+1) k).2+1) (n:=5) (by omega) (by omega) (by decide);omega) (by have:=hq k (by omega);have:=cl_ b (p:=(dkN b (dkA b).1 ((dkA b).2+1) k).2+1) (n:=5) (by omega) (by omega) (by decide);omega)),fo_ [13] [] (k<dkK b) (fun h=>y8_ b ((dkN b (dkA b).1 ((dkA b).2+1) k).2+1+1) hb (by have:=hq k (by omega);omega) (by have:=hq k (by omega);omega))] ?_ ?_
     ·have hkk:k<dkK b:=(by simp only[decide_eq_true_eq]at h31;omega);have w1:=hq k (by omega);have w2:=hP k (by omega);and_intros<;>first|trivial|rfl|decide|omega|(simp only[List.length_append,List.length_cons,List.length_nil];omega)
     refine Exists.intro (()) ⟨?_,?_⟩
     ·trivial
     refine Can.wk ?_ ?_
     ·(rw[f1_,atd_ h41];simp only[List.append_assoc];done)
     (rw[f1_,atd_ h41])
    refine .seq (.rg [] ?_)
    refine .cB (fun h54=>?_) fun h54=>?_
    ·refine .rgo [fo_ [13] [] (k<dkK b) (fun h=>c5_ b ((dkN b (dkA b).1 ((dkA b).2+1) k).2+1) 5 hb (by have:=hq k (by omega);omega) (by have:=hq k (by omega);omega)),a0_ (k<dkK b) (fun h=>hv_ (ay_ b ((dkN b (dkA b).1 ((dkA b).2+1) k).2+1) 5) (by have:=hq k (by omega);have:=cl_ b (p:=(dkN b (dkA b).1 ((dkA b).2+1) k).2+1) (n:=5) (by omega) (by omega) (by decide);omega) (by have:=hq k (by omega);have:=cl_ b (p:=(dkN b (dkA b).1 ((dkA b).2+1) k).2+1) (n:=5) (by omega) (by omega) (by decide);omega)),fo_ [13] [] (k<dkK b) (fun h=>y8_ b ((dkN b (dkA b).1 ((dkA b).2+1) k).2+1+1) hb (by have:=hq k (by omega);omega) (by have:=hq k (by omega);omega))] ?_ ?_
     ·have hkk:k<dkK b:=(by simp only[decide_eq_true_eq]at h31;omega);have w1:=hq k (by omega);have w2:=hP k (by omega);and_intros<;>first|trivial|rfl|decide|omega|(simp only[List.length_append,List.length_cons,List.length_nil];omega)
     refine Exists.intro (()) ⟨?_,?_⟩
     ·trivial
     refine Can.wk ?_ ?_
     ·(rw[f1_,apt_ h41 h54];simp only[List.append_assoc];done)
     (rw[f1_,apt_ h41 h54])
    refine .seq (.rg [] ?_)
    refine .cB (fun h67=>?_) fun h67=>?_
    ·refine .rgo [fo_ [13] [] (k<dkK b) (fun h=>pt_ b ((dkN b (dkA b).1 ((dkA b).2+1) k).2+1) outS (by decide) hb (by have:=hq k (by omega);omega) (by have:=hq k (by omega);omega))] ?_ ?_
     ·have hkk:k<dkK b:=(by simp only[decide_eq_true_eq]at h31;omega);have w1:=hq k (by omega);have w2:=hP k (by omega);and_intros<;>first|trivial|rfl|decide|omega|(simp only[List.length_append,List.length_cons,List.length_nil];omega)
     refine Exists.intro (()) ⟨?_,?_⟩
     ·trivial
     refine Can.wk ?_ ?_
     ·(rw[f1_,aqp_ h41 h54 h67])
     (rw[f1_,aqp_ h41 h54 h67])
    refine .seq (.rg [] ?_)
    refine .cB (fun h74=>?_) fun h74=>?_
    ·refine .rgo [fo_ [13] [] (k<dkK b) (fun h=>pt_ b ((dkN b (dkA b).1 ((dkA b).2+1) k).2+1) ae1_ (by decide) hb (by have:=hq k (by omega);omega) (by have:=hq k (by omega);omega))] ?_ ?_
     ·have hkk:k<dkK b:=(by simp only[decide_eq_true_eq]at h31;omega);have w1:=hq k (by omega);have w2:=hP k (by omega);and_intros<;>first|trivial|rfl|decide|omega|(simp only[List.length_append,List.length_cons,List.length_nil];omega)
     refine Exists.intro (()) ⟨?_,?_⟩
     ·trivial
     refine Can.wk ?_ ?_
     ·(rw[f1_,as4_ h41 h54 h67 h74])
     (rw[f1_,as4_ h41 h54 h67 h74])
    refine .seq (.rg [] ?_)
    refine .cB (fun h81=>?_) fun h81=>?_
    ·refine .rgo [fo_ [13] [] (k<dkK b) (fun h=>pt_ b ((dkN b (dkA b).1 ((dkA b).2+1) k).2+1) flyS (by decide) hb (by have:=hq k (by omega);omega) (by have:=hq k (by omega);omega))] ?_ ?_
     ·have hkk:k<dkK b:=(by simp only[decide_eq_true_eq]at h31;omega);have w1:=hq k (by omega);have w2:=hP k (by omega);and_intros<;>first|trivial|rfl|decide|omega|(simp only[List.length_append,List.length_cons,List.length_nil];omega)
     refine Exists.intro (()) ⟨?_,?_⟩
     ·trivial
     refine Can.wk ?_ ?_
     ·(rw[f1_,ass_ h41 h54 h67 h74 h81])
     (rw[f1_,ass_ h41 h54 h67 h74 h81])
    refine .rgo [fo_ [13] [] (k<dkK b) (fun h=>pt_ b ((dkN b (dkA b).1 ((dkA b).2+1) k).2+1) askS (by decide) hb (by have:=hq k (by omega);omega) (by have:=hq k (by omega);omega))] ?_ ?_
    ·have hkk:k<dkK b:=(by simp only[decide_eq_true_eq]at h31;omega);have w1:=hq k (by omega);have w2:=hP k (by omega);and_intros<;>first|trivial|rfl|decide|omega|(simp only[List.length_append,List.length_cons,List.length_nil];omega)
    refine Exists.intro (()) ⟨?_,?_⟩
    ·trivial
    refine Can.wk ?_ ?_
    ·(rw[f1_,apx_ h41 h54 h67 h74 h81])
    (rw[f1_,apx_ h41 h54 h67 h74 h81])
   refine .rg [] ?_
   refine⟨k+1,?_,?_,?_⟩
   ·simp at h31;omega
   ·simp at h31;omega
   refine Can.wh ?_;simp only[decide_eq_true_eq]at h31;rw[ac_ (by omega) (by omega)];omega
  refine .exit ?_
  refine Exists.intro (()) ⟨?_,?_⟩
  ·trivial
  refine Can.wk ?_ ?_
  ·simp only[decide_eq_false_iff_not]at h31;have e:k=dkK b:=(by omega);rw[e];rfl
  simp only[decide_eq_false_iff_not]at h31;have e:k=dkK b:=(by omega);rw[e];rfl
 refine .seq (.seq (.rg [at_ [13] [] (c5_ b (dkB b).2 30 hb (by omega) (by omega))] ?_))
 refine .block (.seq (.rg [] ?_))
 refine .cB (fun h90=>?_) fun h90=>?_
 ·refine .seq (.rgo [at_ [13] [] (c5_ b ((dkB b).2+1) 2 hb (by omega) (by omega)),ab_ (ako_ 0 (20000 - ((dkB b).1.length:Int)+ay_ b ((dkB b).2+1) 2)),ab_ (wq_ [32] (by decide) (max 0 (20000 - ((dkB b).1.length:Int)+ay_ b ((dkB b).2+1) 2)).toNat (by omega))] ?_ ?_)
  ·have hL:=ip_ [32] (max 0 (20000 - ((dkB b).1.length:Int)+ay_ b ((dkB b).2+1) 2)).toNat;simp only[List.length_cons,List.length_nil]at hL;rw[ac_ (show -9223372036854775808≤20000 - ((dkB b).1.length:Int) by omega) (by omega),ac_ (by omega) (by omega)];and_intros<;>first|trivial|rfl|decide|omega|(simp only[List.length_append];omega)
  refine .ret ⟨.inr rfl,Out.pP Tryz.results7 ?_⟩;rw[hd,if_pos (by simpa using h90)]
 refine .seq (.rg [] ?_)
 refine .cB (fun h102=>?_) fun h102=>?_
 ·refine .seq (.rgo [at_ [13] [] (w5_ b ((dkB b).2+1) [180,190,200] (by decide) hb (by omega) (by omega)),ab_ (wq_ [98,97,100,10] (by decide) (ob_ b ((dkB b).2+1) [180,190,200]).toNat (by omega))] ?_ ?_)
  ·have hL:=ip_ [98,97,100,10] (ob_ b ((dkB b).2+1) [180,190,200]).toNat;simp only[List.length_cons,List.length_nil]at hL;and_intros<;>first|trivial|rfl|decide|omega|(simp only[List.length_append];omega)|(simp;omega)
  refine .ret ⟨.inr rfl,Out.pP Tryz.results7 ?_⟩;rw[hd,if_neg (by simpa using h90),if_pos (by simpa using h102)]
 refine .skip (.seq (.rgo [] ?_ ?_))
 ·omega
 refine .ret ⟨.inr rfl,Out.pP Tryz.results7 ?_⟩;rw[hd,if_neg (by simpa using h90),if_neg (by simpa using h102)]
end
section
theorem a3j_ {b:List Pg} (h:bi_ b=true) (hp:prR (bc_ b)=true):prL (bc_ b)=ia_ b:=by
 unfold prL
 rw[if_pos hp,aar_ h,List.map_map];rfl
def wRun:Str:=[114,117,110]
def wPrn:Str:=[112,114,105,110,116]
theorem aoq_ (b:List Pg):dj_ b wRun=if prR (bc_ b)then ou_ (f5_ (prL (bc_ b)))else [98,97,100,10]:=by
 unfold dj_
 rw[if_neg (by decide),if_neg (by decide),if_neg (by decide),if_neg (by decide),if_neg (by decide),if_pos (.inr rfl)]
 congr 1
theorem aou_ (b:List Pg):dj_ b wPrn=ou_ (hm_ (d5_ b)):=by
 unfold dj_
 rw[if_neg (by decide),if_neg (by decide),if_neg (by decide),if_neg (by decide),if_pos (by decide)]
theorem aow_ {b:List Pg} (h:bi_ b=true):dj_ b wRun=[98,97,100,10]∨dj_ b wRun=dj_ b wPrn:=by
 rw[aoq_,aou_]
 cases hp:prR (bc_ b)with
 |false=>exact .inl rfl
 |true=>
  refine .inr ?_
  rw[if_pos rfl,a3j_ h hp,au7_ h,aer_ (vq_ h)]
theorem anm_ {b:List Pg} {a:Int} {d:Nat} {ls:List Str} (h:bi_ b=true):bi_ (gg_ b (chg b a d ls) (bf_ b a d ls)).1=true:=by
 unfold gg_
 split
 ·rename_i q;exact ah2_ q
 exact h
theorem aox_ {b:List Pg} (h:bi_ b=true) (w:List Str):bi_ (bw_ b w).1=true:=by
 unfold bw_
 repeat' split
 all_goals first|exact anm_ h|exact h
theorem ajv_:∀(x:List Str) (i:Nat) (b:List Pg) (o:Str),bi_ b=true→bi_ (goD x i b o).1=true
 |[],i,b,o,h=>h
 |a::x,i,b,o,h=>by
  simp only[goD]
  split
  ·exact ajv_ x _ _ _ h
  split
  ·exact h
  exact ajv_ x _ _ _ (aox_ h _)
theorem ail_:bi_ (f4_ [])=true:=akx_ (by rw[apc_ atr_];simp)
theorem ari_ (s:Str):bi_ (az1_ s)=true:=ajv_ _ _ _ _ ail_
theorem y9_ (b:List Pg) {w:Str} (h:w≠[97,100,100]):(bw_ b [w]).2=dj_ b w:=by
 unfold bw_
 rw[if_neg (by simpa using h),if_pos (by simp)];rfl
theorem ats_ {s:Str} (h:s.length≤19980) (hl:(bx_ 10 s).length<200) (ho:(ds_ s).length≤60000):ds_ (s++10::wRun)=ds_ s++[98,97,100,10]∨ds_ (s++10::wRun)=ds_ (s++10::wPrn):=by
 have e1:wRun.length=3:=rfl
 have e2:wPrn.length=5:=rfl
 rw[yu_ (by omega) hl ho (by decide) (by decide),yu_ (by omega) hl ho (by decide) (by decide),y9_ _ (by decide),y9_ _ (by decide)]
 rcases aow_ (ari_ s)with q|q
 ·exact .inl (by rw[q])
 exact .inr (by rw[q])
theorem af5_ (d:UInt8):∀s:Str,(bx_ d s).length=s.count d+1
 |[]=>rfl
 |c::s=>by
  have ih:=af5_ d s
  rw[bx_,List.count_cons]
  split
  ·rename_i h;simp[h,ih]
  rename_i h
  cases hs:bx_ d s with
  |nil=>exact absurd hs (ab1_ d s)
  |cons w r=>
   rw[hs]at ih
   simp only[List.length_cons]at ih ⊢
   simp[h];omega
end
section
open Go.ChangeShapes Go.WideShapes Go.ChangeAt Go.RowKit
theorem aka_:ownKnob Tryz.prog.godebug=none:=by kernel_rfl
theorem aki_:laidOutB Tryz.prog=true:=by kernel_rfl
theorem a2x_:Tryz.prog.cellsOf 9=1:=by kernel_rfl
theorem a2p_:Tryz.prog.cellsOf 5=1:=by kernel_rfl
structure LaidIn (L:List (String × DataW Unit)):Prop where
 t:("internal/strconv.uint64pow10",Rows.laid_internal_strconv_uint64pow10)∈L
 r:("strconv.ErrRange",Rows.laid_strconv_ErrRange)∈L
 s:("strconv.ErrSyntax",Rows.laid_strconv_ErrSyntax)∈L
 o:("loop.example/interlinear/impl.ownWords",Rows.laid_loop_example_interlinear_impl_ownWords)∈L
 h:(L.filter fun x=>x.2.handleName?.isSome)=[]
theorem LaidIn.met {W:World} {L:List (String × DataW Unit)} (I:LaidIn L) (hL:laidMetH Tryz.prog L W):laidMet Tryz.prog L W:=by
 unfold laidMetH at hL
 rw[I.h]at hL
 exact hL
theorem gOwn:Tryz.prog.globalNamed "loop.example/interlinear/impl.ownWords" = some 1:=by kernel_rfl
theorem gtTab:(Tryz.prog.globals[6]?).map (·.type)=some 279:=by kernel_rfl
theorem a4z_:(Tryz.prog.globals[4]?).map (·.type)=some 44:=by kernel_rfl
theorem a47_:(Tryz.prog.globals[5]?).map (·.type)=some 44:=by kernel_rfl
theorem gtOwn:(Tryz.prog.globals[1]?).map (·.type)=some 29:=by kernel_rfl
theorem ay3_:Tryz.prog.cellsOf 279=20:=by kernel_rfl
theorem axz_:Tryz.prog.cellsOf 257=1:=by kernel_rfl
theorem vk_ {φ:Phi} {S:Nat→Prop} {w:World}:∀l:List Str,VRr φ S w 1 (ai_ l) (l.map fun s=>Value.string ⟨s.toArray⟩)
 |[]=>by simp only[ai_,List.map_nil];exact VRr.nil
 |s::l=>by
  simp only[ai_,List.map_cons]
  exact VRr.cons (ys:=[.string ⟨s.toArray⟩]) rfl (.cons (by simp only[VR]) .nil) (fun u hu=>by simp at hu;subst hu;rfl) (vk_ l)
theorem s9_ {H:Type} {enc:TypeId × Value→H} {P:Program} {w:World} {base:Nat} {sp:Nat→Bool} {jm_:Bool} {fuel:Nat} {t:TypeId} {ms:Array (String × TypeId)} {cs:List Value} {nm:String} {d:DataW H} {p:List MemPlace}
  (hi:P.underlying t=some (.interface ms)) (h:DataW.trod enc P w base sp jm_ fuel t cs=some (.iface nm d,p)):∃u v,cs=[.iface u v]:=by
 cases fuel with
 |zero=>simp[DataW.trod]at h
 |succ fuel=>
  unfold DataW.trod at h
  rw[hi]at h
  split at h<;>simp_all
theorem zz_ {W:World} {n nm:String} {d:DataW Unit} {g:Nat} {t:TypeId} {ms:Array (String × TypeId)} (h:Lib.VarReads Tryz.prog W n (.iface nm d)) (hg:Tryz.prog.globalNamed n=some g) (ht:(Tryz.prog.globals[g]?).map (·.type)=some t) (hi:Tryz.prog.underlying t=some (.interface ms)) :
  ∃u v,W.var? Tryz.prog n=some #[.iface u v]:=by
 obtain⟨g',t',cs,fuel,p,hg',ht',hv,hd⟩:=h
 obtain rfl:=Option.some.inj (hg.symm.trans hg')
 obtain rfl:=Option.some.inj (ht.symm.trans ht')
 obtain⟨u,v,hcs⟩:=s9_ hi hd
 exact⟨u,v,by rw[hv,Array.eq_one_of_toList hcs]⟩
theorem abt_ {W:World} {n:String} {g:Nat} {cs:Array Value} (hg:Tryz.prog.globalNamed n=some g) (hv:W.var? Tryz.prog n=some cs):g<W.heap.size:=by
 unfold World.var? at hv
 rw[hg]at hv
 simp only[Option.bind_some]at hv
 cases hh:W.heap[g]? with
 |none=>rw[hh]at hv;cases hv
 |some o=>exact(Array.getElem?_eq_some_iff.1 hh).1
theorem aij_ {W:World} {L:List (String × DataW Unit)} (I:LaidIn L) (hL:laidMetH Tryz.prog L W) (hS:W.ShapedOpen Tryz.prog):Gl W.heap.size W:=by
 have hM:laidMet Tryz.prog L W:=I.met hL
 have r1:=Lib.laidMet.reads hM (n:= "internal/strconv.uint64pow10") I.t
 have r2:=Lib.laidMet.reads hM (n:= "strconv.ErrRange") I.r
 have r3:=Lib.laidMet.reads hM (n:= "strconv.ErrSyntax") I.s
 obtain⟨m,hm⟩:=cell_of_shapedOpen_int (P:=Tryz.prog) (g:=0) (t:=3) (k:=.i64) (zero:=#[.int .i64 0]) hS (of_decide_eq_true (by kernel_rfl)) (by kernel_rfl) rfl (by kernel_rfl) (by kernel_rfl) Tryz.underlying3
 have hmB:0<W.heap.size:=by
  unfold World.cell? at hm
  cases hh:W.heap[0]? with
  |none=>simp[hh]at hm
  |some o=>exact(Array.getElem?_eq_some_iff.1 hh).1
 have h1:Lib.TabIs Tryz.prog W "internal/strconv.uint64pow10" .u64 Lib.pow10Tab:=by
  obtain⟨g',t',cs,fuel,p,hg',ht',hv,hd⟩:=r1
  obtain rfl:=Option.some.inj (gTab.symm.trans hg')
  obtain rfl:=Option.some.inj (gtTab.symm.trans ht')
  unfold Lib.TabIs
  rw[hv,←Lib.cells_of_tab (k:=.u64) (zs:=Lib.pow10Tab) Tryz.underlying279 Tryz.underlying257 axz_ ay3_ hd]
 obtain⟨u2,v2,h2⟩:=zz_ r2 gRng a47_ Tryz.underlying44
 obtain⟨u3,v3,h3⟩:=zz_ r3 gSyn a4z_ Tryz.underlying44
 exact⟨h1,⟨u3,v3,h3⟩,⟨u2,v2,h2⟩,⟨m,hm⟩,abt_ gTab h1,abt_ gSyn h3,abt_ gRng h2,hmB⟩
theorem adq_ {W:World} {L:List (String × DataW Unit)} (I:LaidIn L) (hL:laidMetH Tryz.prog L W):VR (fun _=>none) (fun _=>True) W (.rp [.sl false (ai_ ownW)]) (.pointer (some ⟨1,0,none⟩)):=by
 have hM:laidMet Tryz.prog L W:=I.met hL
 have r1:=Lib.laidMet.reads hM (n:= "loop.example/interlinear/impl.ownWords") I.o
 obtain⟨g',t',cs,fuel,p,hg',ht',hv,hd⟩:=r1
 obtain rfl:=Option.some.inj (gOwn.symm.trans hg')
 obtain rfl:=Option.some.inj (gtOwn.symm.trans ht')
 have hd':DataW.trod (fun _=>()) Tryz.prog W 0 (fun _=>true) false fuel 29 cs.toList=some (.slice (ownW.map fun s=>.lit (.string s)) [],p):=hd
 obtain⟨a,cap,hcs,hle,hel⟩:=open_row Tryz.underlying29 a2x_ hd'
 have hmx:cap≤maxLen:=by
  rcases DataW.trod_slice Tryz.underlying29 hd' with⟨h0,_⟩|⟨a2,len2,cap2,elems,rest,n,_,hcs2,_,_,_,hm,_⟩
  ·rw[hcs]at h0;simp at h0
  rw[hcs]at hcs2
  simp only[List.cons.injEq,Value.slice.injEq,and_true]at hcs2
  rw[hcs2.2.2];exact hm
 obtain⟨b,off,spot⟩:=a
 have hs:spot=none:=by
  obtain⟨v,n,q,h1,_⟩:=hel 0 (.lit (.string [108,101,116])) rfl
  simpa[Addr.add]using World.cell?_spot h1
 subst hs
 have hcell:∀i,i<8→∃s:Str,ownW[i]? = some s∧W.cell? ⟨b,off+i,none⟩=some (.string ⟨s.toArray⟩):=fun i hi=>by
  have hi2:i<ownW.length:=hi
  obtain⟨v,n,q,h1,h2⟩:=hel i (.lit (.string (ownW[i]'hi2))) (by rw[List.getElem?_map,List.getElem?_eq_getElem hi2];rfl)
  obtain⟨s,e1,e2,_⟩:=DataW.trod_string Tryz.underlying9 h2
  simp only[List.cons.injEq,and_true]at e1
  subst e1
  simp only[Prod.mk.injEq,DataW.lit.injEq,Lit.string.injEq]at e2
  refine⟨ownW[i]'hi2,List.getElem?_eq_getElem hi2,?_⟩
  rw[add_plain]at h1
  rw[h1,e2.1]
 obtain⟨s0,_,hc0⟩:=hcell 0 (by decide)
 have hb:b<W.heap.size:=by
  cases hh:W.heap[b]? with
  |none=>simp[World.cell?,hh]at hc0
  |some o=>exact(Array.getElem?_eq_some_iff.1 hh).1
 have hv0:=World.var?_cell gOwn hv 0
 rw[Array.eq_one_of_toList hcs]at hv0
 have hg:=abt_ gOwn hv
 simp only[VR]
 refine⟨_,0,[.slice (some ⟨b,off,none⟩) ownW.length cap],rfl,trivial,hg,fun j u hu=>?_,.cons ?_ .nil⟩
 ·cases j with
  |zero=>simp at hu;subst hu;simpa using hv0
  |succ j=>simp at hu
 simp only[VR]
 refine⟨some ⟨b,off,none⟩,cap,1,ownW.map fun s=>.string ⟨s.toArray⟩,by simp[af_],by simpa[af_]using hle,hmx,fun e=>(by simp at e),fun _=>⟨b,off,rfl,trivial,hb,fun j u hu=>?_⟩,vk_ ownW⟩
 ·rw[List.getElem?_map]at hu
  have hj:j<8:=by
   rcases Nat.lt_or_ge j 8 with h|h
   ·exact h
   rw[List.getElem?_eq_none (by exact h)]at hu;cases hu
  obtain⟨s,e1,e2⟩:=hcell j hj
  rw[e1]at hu
  simp at hu;subst hu
  exact e2
theorem sp_ {φ:Phi} {S:Nat→Prop} {w:World}:∀zs:List Int,(∀n∈zs,(Lit.int .u8 n).wf=true)→VRr φ S w 1 (byR (zs.map fun n=>UInt8.ofNat n.toNat)) (zs.map fun z=>Value.int .u8 z)
 |[],_=>by simp only[byR,List.map_nil];exact VRr.nil
 |z::l,h=>by
  have hz:=bounds_u8 (h z (by simp))
  simp only[byR,List.map_cons]
  exact VRr.cons (ys:=[.int .u8 z]) rfl (.cons (by simp only[VR,UInt8.toNat_ofNat'];rw[Nat.mod_eq_of_lt (by omega),Int.toNat_of_nonneg hz.1]) .nil) (fun u hu=>by simp at hu;subst hu;rfl) (sp_ l fun n hn=>h n (by simp[hn]))
theorem afy_ {H:Type} {enc:TypeId × Value→H} {W:World} {r:Reach} {base:Nat} {v0:Value} {d0:DataW H} {p:List MemPlace} (hv:Value.okWide Tryz.prog W r base 24 v0) (h0:DataW.Trod enc Tryz.prog W 0 (fun _=>true) true 24 v0 d0 p) :
  ∃b:Str,b.length≤maxLen∧VR (fun _=>none) (fun _=>True) W (.sl false (byR b)) v0:=by
 obtain⟨a0,len,cap,rfl⟩:=okWide_slice Tryz.underlying24 hv
 obtain⟨fuel,hf⟩:=h0
 rcases open_ints Tryz.underlying24 Tryz.underlying5 a2p_ hf with⟨hcs,hx⟩|⟨a,len',cap',zs,hcs,_,hl,hm,hz,hx,hcell,hwz⟩
 ·simp[Value.cells]at hcs
  obtain⟨rfl,rfl,rfl⟩:=hcs
  refine⟨[],by decide,?_⟩
  simp only[VR]
  exact⟨none,0,1,[],rfl,Nat.le_refl _,by decide,fun _=>rfl,fun h=>absurd rfl h,VRr.nil⟩
 simp[Value.cells]at hcs
 obtain⟨rfl,rfl,rfl⟩:=hcs
 simp only[if_true]at hz
 refine⟨(zs.take len).map fun n=>UInt8.ofNat n.toNat,?_,?_⟩
 ·simp;omega
 have hll:(byR ((zs.take len).map fun n=>UInt8.ofNat n.toNat)).length=len:=by simp[byR];omega
 simp only[VR,hll]
 refine⟨some a,cap,1,(zs.take len).map fun z=>.int .u8 z,rfl,hl,hm,fun e=>by simp at e,fun hne=>?_,sp_ _ fun n hn=>hwz n (List.mem_of_mem_take hn)⟩
 have hpos:0<zs.length:=by
  rcases Nat.eq_zero_or_pos zs.length with h|h
  ·exact absurd (by simp[List.eq_nil_of_length_eq_zero h]) hne
  exact h
 obtain⟨b,off,spot⟩:=a
 have hspot:spot=none:=by simpa[Addr.add]using World.cell?_spot (hcell 0 hpos)
 subst hspot
 have h00:=hcell 0 hpos
 have hb:b<W.heap.size:=by
  cases hh:W.heap[b]? with
  |none=>simp[World.cell?,hh,add_plain]at h00
  |some o=>exact(Array.getElem?_eq_some_iff.1 hh).1
 refine⟨b,off,rfl,trivial,hb,fun j u hu=>?_⟩
 rw[List.getElem?_map]at hu
 cases hj:(zs.take len)[j]? with
 |none=>rw[hj]at hu;simp at hu
 |some z=>
  rw[hj]at hu
  simp at hu;subst hu
  have hlt:=(List.getElem?_eq_some_iff.1 hj).1
  rw[List.length_take]at hlt
  have hc:=hcell j (by omega)
  rw[add_plain]at hc
  rw[hc]
  rw[List.getElem?_take]at hj
  split at hj
  ·rw[List.getD_eq_getElem?_getD,hj];rfl
  cases hj
theorem ale_ {f:FuncId} {vs:List V} {args:Array Value} {W:World} {L:List (String × DataW Unit)} (A:ACall En f vs [] [.b true] []) (hx:VRs (fun _=>none) (fun _=>True) W vs args.toList) (I:LaidIn L) (hL:laidMetH Tryz.prog L W) (hS:W.ShapedOpen Tryz.prog) :
  Calls Tryz.prog f args W fun e w'=>e = .returned (.bool true)∧Below W.heap.size W w':=by
 have hp:Pre En (fun _=>none) (fun _=>True) W vs [] args:=by
  refine⟨hx,fun i b hb=>by simp at hb,fun i j g hi=>by simp at hi,fun g _ l b hb=>by simp,fun g cs hg=>?_,fun l hl=>absurd rfl hl,W.heap.size,aij_ I hL hS,Nat.le_refl _,fun i g hg=>by cases hg⟩
  simp only[En]at hg
  split at hg
  ·rename_i e;subst e;cases hg;exact adq_ I hL
  cases hg
 refine(A.2 _ _ W args hp).mono fun e w' ⟨xs,φr,he,hpost⟩=>?_
 have hr:=hpost.res
 simp only[VRs,VR]at hr
 obtain⟨x,r,rfl,rfl,rfl⟩:=hr
 refine⟨he,?_⟩
 have:=hpost.frame.mono (Qb:=fun _=>False) fun g _ ⟨i,hi,_⟩=>by simp at hi
 exact this.toBelow
end
section
open Go.ChangeShapes Go.WideShapes Go.ChangeAt Go.RowKit Go.WideElems
def tyOk (P:Program) (t:TypeId):Prop:=P.readableRec t=true∧t<P.types.size
section
variable {P:Program} {H:Type} {enc:TypeId × Value→H} {W W':World} {sp:Nat→Bool}
theorem pm_ (hl:laidOutB P=true) (hb:Below W.heap.size W W'):∀ {ts:List TypeId} {vs:List Value} {ds:List (DataW H)} {ps:List MemPlace},DataW.TrodAll enc P W 0 (fun _=>true) true ts vs ds ps→(∀t∈ts,tyOk P t)→(∀x∈ps,x.block<W.heap.size)→(∀p∈ps,sp p.block=true)→DataW.TrodAll enc P W' 0 sp true ts vs ds ps
 |[],_,_,_,h,_,_,_=>by
  obtain⟨rfl,rfl,rfl⟩:=trodAll_nil h
  exact trodAll_mk0
 |t::ts,_,_,_,h,ht,hlt,hs=>by
  obtain⟨v,vs1,d,ds1,a,b,rfl,rfl,rfl,h1,h2⟩:=trodAll_cons h
  have hk:=ht t List.mem_cons_self
  exact⟨a,b,Trod_stays hl hk.1 hk.2 h1 (fun x hx=>hb.same (hlt x (List.mem_append_left _ hx))) (fun x hx=>hs x (List.mem_append_left _ hx)),
   pm_ hl hb h2 (fun t h=>ht t (List.mem_cons_of_mem _ h)) (fun x hx=>hlt x (List.mem_append_right _ hx)) (fun x hx=>hs x (List.mem_append_right _ hx)),rfl⟩
theorem azn_ {n:String} {g:Nat} {cs:Array Value} (hg:P.globalNamed n=some g) (hv:W.var? P n=some cs):g<W.heap.size:=by
 unfold World.var? at hv
 rw[hg]at hv
 simp only[Option.bind_some]at hv
 cases hh:W.heap[g]? with
 |none=>rw[hh]at hv;cases hv
 |some o=>exact(Array.getElem?_eq_some_iff.1 hh).1
theorem np_ (hl:laidOutB P=true) (hb:Below W.heap.size W W'):∀ {ns:List String} {gs:List (DataW H)} {ps:List MemPlace},DataW.TrodVars enc P W (fun _=>true) ns gs ps→(∀n∈ns,∀g t,P.globalNamed n=some g→(P.globals[g]?).map (·.type)=some t→tyOk P t)→(∀x∈ps,x.block<W.heap.size)→(∀p∈ps,sp p.block=true)→DataW.TrodVars enc P W' sp ns gs ps
 |[],_,_,h,_,_,_=>by
  obtain⟨rfl,rfl⟩:=trodVars_none h
  rfl
 |n::ns,gs,ps,h,ht,hlt,hs=>by
  cases gs with
  |nil=>simp[DataW.TrodVars]at h
  |cons d ds=>
   obtain⟨g,t,cs,fuel,p,q,h1,h2,h3,h4,h5,rfl⟩:=h
   have hk:=ht n List.mem_cons_self g t h1 h2
   refine⟨g,t,cs,fuel,p,q,h1,h2,?_,DataW.trod_stays (kids_book hl hk.1) (book_sized hk.1) (fun h=>by cases h) ⟨hk.2,book_self t⟩ h4 (fun x hx=>hb.same (hlt x (by simp only[List.mem_append];exact .inl (.inr hx)))) (fun x hx=>hs x (by simp only[List.mem_append];exact .inl (.inr hx))),
    np_ hl hb h5 (fun m hm=>ht m (List.mem_cons_of_mem _ hm)) (fun x hx=>hlt x (List.mem_append_right _ hx)) (fun x hx=>hs x (List.mem_append_right _ hx)),rfl⟩
   rw[←h3]
   unfold World.var?
   rw[h1]
   simp only[Option.bind_some]
   have hg:=azn_ h1 h3
   rw[hb.block g hg]
theorem zk_ (hl:laidOutB P=true) {tb:TypeId} (hu:P.underlying tb=some .bool) {f:Func} {s:ChangeSpec} {args:Array Value} {ds gs:List (DataW H)} {before:List MemPlace}
  (hW:DataW.Whole enc P f.params.toList s.vars false W args.toList ds gs before) (hb:Below W.heap.size W W')
  (hts:∀t∈f.params.toList,tyOk P t) (hvs:∀n∈s.vars,∀g t,P.globalNamed n=some g→(P.globals[g]?).map (·.type)=some t→tyOk P t)
  (hr:f.resultTypes=#[tb]) (hfn:s.fn H (ds++gs)={ results:=[.lit (.bool true)],args:=ds,vars:=gs }) :
  s.post enc P f false true false false W args (.bool true) W':=by
 have hlt:=hW.lt
 have hold:∀p∈before,(fun b=>decide (b<W.heap.size)) p.block=true:=fun p hp=>by simpa using hlt p hp
 have hW':=hW
 obtain⟨pa,pv,hA,hV,hps,hz,hn⟩:=hW'
 have hla:∀x∈pa,x.block<W.heap.size:=fun x hx=>hlt x (by rw[hps];exact List.mem_append_left _ hx)
 have hlv:∀x∈pv,x.block<W.heap.size:=fun x hx=>hlt x (by rw[hps];exact List.mem_append_right _ hx)
 have hres:∀(b:Nat) (sp:Nat→Bool) (hd:Bool),DataW.TrodAll enc P W' b sp hd f.resultTypes.toList ((Value.bool true).resultList f.resultTypes.size) [.lit (.bool true)] []:=fun b sp hd=>by
  rw[hr];exact trodAll_mk1 (shut_bool hu _)
 have hargs:∀sp:Nat→Bool,(∀p∈before,sp p.block=true)→DataW.TrodAll enc P W' 0 sp true f.params.toList args.toList ds pa:=fun sp hs=>pm_ hl hb hA hts hla fun x hx=>hs x (by rw[hps];exact List.mem_append_left _ hx)
 have hvars:∀sp:Nat→Bool,(∀p∈before,sp p.block=true)→DataW.TrodVars enc P W' sp s.vars gs pv:=fun sp hs=>np_ hl hb hV hvs hlv fun x hx=>hs x (by rw[hps];exact List.mem_append_right _ hx)
 have hok:∀(j:Nat) (t:TypeId) (r:Value),f.resultTypes[j]? = some t→((Value.bool true).resultList f.resultTypes.size)[j]? = some r→Value.okWide P W' .any 0 t r:=ok_one hr rfl (okWide_bool_mk hu _)
 refine⟨ds,gs,before,[],pa,pv,hW,by rw[hfn];exact hres _ _ _,by rw[hfn];exact hargs _ hold,by rw[hfn];exact hvars _ hold,World.keptBut_mono (fun p hp=>⟨hp,?_⟩) (hb.frame (·∈before)),fun _=>?_⟩
 ·rw[hps,List.mem_append]at hp
  exact Or.inr hp
 refine⟨hok,_,_,([]++pa)++pv,⟨[]++pa,pv,trodAll_append (hargs _ (fun _ _=>rfl)) (hres _ _ _),hvars _ (fun _ _=>rfl),rfl,?_,?_⟩,?_⟩
 ·intro b off hp
  have hp':MemPlace.cell b off∈before:=by rw[hps];simpa using hp
  rw[hb.frozen (hlt _ hp')]
  exact hz b off hp'
 ·intro ha;cases ha
 intro p hp _
 rw[hps]
 simpa using hp
end
theorem a0a_:∀n∈["loop.example/interlinear/impl.ownWords"],∀g t,Tryz.prog.globalNamed n=some g→(Tryz.prog.globals[g]?).map (·.type)=some t→tyOk Tryz.prog t:=fun n hn g t hg ht=>by
 obtain rfl:n = "loop.example/interlinear/impl.ownWords" :=by simpa using hn
 obtain rfl:=Option.some.inj (gOwn.symm.trans hg)
 obtain rfl:=Option.some.inj (gtOwn.symm.trans ht)
 exact⟨by kernel_rfl,of_decide_eq_true (by kernel_rfl)⟩
end
end Go.Proofs.YthjccajoadjicaaGreatDoor
