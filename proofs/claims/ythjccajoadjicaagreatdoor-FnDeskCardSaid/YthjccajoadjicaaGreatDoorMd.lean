/- Tree logic, part 35: functions that use up places that they are handed. Conditions: none. -/
import Derived.Test.YthjccajoadjicaaGreatDoorMe
import Derived.Lib.Builder
import Derived.Lib.UnsafeStr
import Derived.Laws.Externs
import Derived.Laws.Pointers
import Derived.Lib.AppendStr
set_option linter.unusedVariables false
set_option linter.unusedSimpArgs false
namespace Go.Proofs.YthjccajoadjicaaGreatDoor
section
open Go.RowKit
def SOfU (φ φr:Phi) (S:Nat→Prop) (w:World) (L0 Lr:List Blk) (g:Nat):Prop:=(S g∨w.heap.size≤g∨rs_ φ L0 g)∧wi_ φr (lq_ Lr) g
structure PostU (φ:Phi) (S:Nat→Prop) (w:World) (L0:List Blk) (k:Nat) (rs:List V) (Lr:List Blk) (φr:Phi) (xs:List Value) (w':World):Prop where
 same:∀i,i<k→φr i=φ i
 res:VRs φr (SOfU φ φr S w L0 Lr) w' rs xs
 mem:∀i b,Lr[i]? = some b→MR φr (SOfU φ φr S w L0 Lr) w' i b
 new:∀i g,k≤i→φr i=some (some g)→w.heap.size≤g∨∃j,k≤j∧j<L0.length∧φ j=some (some g)
 inj:∀i j g,i<Lr.length→j<Lr.length→φr i=some (some g)→φr j=some (some g)→i=j
 frame:FrameW (rs_ φ L0) w w'
def n5_ (E:Env) (f:FuncId) (vs:List V) (L0:List Blk) (k:Nat) (rs:List V) (Lr:List Blk):Prop:=
 (∀args w,(callFunc f args).run E.P w = .ok (.enter f args) w)∧
 ∀φ S w args,Pre E φ S w vs L0 args→Calls E.P f args w fun e w'=>∃xs φr,e = .returned (ga_ xs)∧PostU φ S w L0 k rs Lr φr xs w'
def fl_ (η η':List Nat) (k:Nat) (rs:List V) (Lr:List Blk):Eff:=
 { v:=if_ (rns η' rs),wr:=(η.drop k).map (fun n=>(n,none))++η'.zip (Lr.map fun b=>some (rnB η' b)),nw:=η'.drop k,rd:=η }
theorem x0_ {x:Nat}:∀(l:List Nat) (m:Mem),x∈l→((l.map fun n=>((n,none):Nat × Option Blk)).foldl (fun m p=>upd m p.1 p.2) m) x=none
 |n::l,m,h=>by
  rw[List.map_cons,List.foldl_cons]
  by_cases hx:x∈l
  ·exact x0_ l _ hx
  have e:x=n:=by
   rcases List.mem_cons.1 h with e|e
   ·exact e
   exact absurd e hx
  subst e
  rw[eg_ _ _ (fun p hp e=>hx (by obtain⟨y,hy,rfl⟩:=List.mem_map.1 hp;exact e ▸ hy)),dd_]
section
variable {E:Env} {C:Cx} {φ:Phi} {s:St} {a:Act} {w w':World} {o:Oper}
theorem RelAt.calledU (hr:RelAt E C φ s a w) {η η':List Nat} {k:Nat} {L0 Lr:List Blk} {rs:List V} {xs:List Value} {φr:Phi} (hη:η.length=L0.length) (hk:k≤η.length) (hpre:η'.take k=η.take k) (hlr:η'.length=Lr.length) (hle:k≤η'.length) (hnd:η'.Nodup) (hndη:η.Nodup)
  (hm0:∀i b,L0[i]? = some b→s.m (η.getD i 0)=some (rnB η b)) (hnew:∀l∈η'.drop k,s.u l=false)
  (hcl:cls η'.length rs=true) (hclr:∀b∈Lr,clr η'.length b.rows=true) (hp:PostU (cz_ η φ) (C.S φ s.m) w L0 k rs Lr φr xs w') :
  ∃φ',RelAt E C φ' ⟨s.σ,(fl_ η η' k rs Lr).mem s.m,(fl_ η η' k rs Lr).use s.u⟩ a w'∧VR φ' (C.S φ' ((fl_ η η' k rs Lr).mem s.m)) w' (if_ (rns η' rs)) (ga_ xs):=by
 have hget:∀i,i<k→η'.getD i 0=η.getD i 0:=fun i hi=>by
  rw[List.getD_eq_getElem?_getD,List.getD_eq_getElem?_getD,←List.getElem?_take_of_lt hi,hpre,List.getElem?_take_of_lt hi]
 have hin:∀i,i<η'.length→η'.getD i 0∈η':=fun i hi=>by
  rw[List.getD_eq_getElem?_getD,List.getElem?_eq_getElem hi];exact List.getElem_mem hi
 have hin0:∀i,i<η.length→η.getD i 0∈η:=fun i hi=>by
  rw[List.getD_eq_getElem?_getD,List.getElem?_eq_getElem hi];exact List.getElem_mem hi
 have hold:∀i,i<η.length→∃b,s.m (η.getD i 0)=some b:=fun i hi=>by
  have h1:i<L0.length:=by omega
  exact⟨_,hm0 i L0[i] (List.getElem?_eq_getElem h1)⟩
 have hused:∀i,i<η.length→φ (η.getD i 0)≠none:=fun i hi hn=>by
  obtain⟨b,hb⟩:=hold i hi
  exact(hr.mem _ b hb).name hn
 have husedM:∀x,x∈η→s.u x=true:=fun x hx=>by
  obtain⟨i,hi,rfl⟩:=List.mem_iff_getElem.1 hx
  have:=hr.used _ (hused i hi)
  rwa [List.getD_eq_getElem?_getD,List.getElem?_eq_getElem hi]at this
 have hdrop:∀i,k≤i→i<η'.length→η'.getD i 0∈η'.drop k:=fun i h1 h2=>by
  rw[List.getD_eq_getElem?_getD,List.getElem?_eq_getElem h2,Option.getD_some]
  have:(η'.drop k)[i - k]? = some η'[i]:=by rw[List.getElem?_drop,show k+(i - k)=i by omega,List.getElem?_eq_getElem h2]
  exact List.mem_of_getElem? this
 have hidx:∀i j,i<η'.length→j<η'.length→η'.getD i 0=η'.getD j 0→i=j:=fun i j hi hj h=>by
  rw[List.getD_eq_getElem?_getD,List.getD_eq_getElem?_getD,List.getElem?_eq_getElem hi,List.getElem?_eq_getElem hj]at h
  exact(List.getElem_inj hnd).1 h
 let φ':Phi:=fun x=>if x∈η'.drop k then φr (η'.idxOf x)else φ x
 have hφ':∀i,i<η'.length→φr i=φ' (η'.getD i 0):=fun i hi=>by
  by_cases h1:i<k
  ·have hn:η'.getD i 0 ∉ η'.drop k:=fun hm=>by
    have:=hnew _ hm
    rw[hget i h1]at this
    have h2:=hr.used _ (hused i (by omega))
    rw[h2]at this;cases this
   simp only[φ',hn,if_false]
   rw[hp.same i h1,b2_ (by omega),hget i h1]
  have hm:=hdrop i (by omega) hi
  simp only[φ',hm,if_true]
  congr 1
  rw[List.getD_eq_getElem?_getD,List.getElem?_eq_getElem hi,Option.getD_some]
  exact(hnd.idxOf_getElem i hi).symm
 have hphi:∀x y,φ x=some y→φ' x=some y:=fun x y hxy=>by
  have hn:x ∉ η'.drop k:=fun hm=>by
   have h1:=hnew x hm
   have h2:=hr.used x (by rw[hxy];simp)
   rw[h1]at h2;cases h2
  simp only[φ',hn,if_false];exact hxy
 have hother:∀x,x ∉ η'→φ' x=φ x:=fun x hx=>by
  have hn:x ∉ η'.drop k:=fun hm=>hx (List.mem_of_mem_drop hm)
  simp only[φ',hn,if_false]
 have hzip:(η'.zip (Lr.map fun b=>some (rnB η' b))).map (·.1)=η':=by
  rw[List.map_fst_zip (by simp;omega)]
 have hmem:∀x,(fl_ η η' k rs Lr).mem s.m x=((η'.zip (Lr.map fun b=>some (rnB η' b))).foldl (fun m p=>upd m p.1 p.2) (((η.drop k).map fun n=>((n,none):Nat × Option Blk)).foldl (fun m p=>upd m p.1 p.2) s.m)) x:=fun x=>by
  simp only[fl_,Eff.mem,List.foldl_append]
 have hm1:∀i b,Lr[i]? = some b→(fl_ η η' k rs Lr).mem s.m (η'.getD i 0)=some (rnB η' b):=fun i b hb=>by
  have hi:i<η'.length:=by rw[hlr];exact(List.getElem?_eq_some_iff.1 hb).1
  rw[hmem]
  refine aay_ _ _ (by rw[hzip];exact hnd) ?_
  refine List.mem_of_getElem? (i:=i) ?_
  rw[List.getElem?_zip_eq_some]
  exact⟨by rw[List.getD_eq_getElem?_getD,List.getElem?_eq_getElem hi];rfl,by simp[hb]⟩
 have hm2:∀x,x ∉ η'→(fl_ η η' k rs Lr).mem s.m x=(((η.drop k).map fun n=>((n,none):Nat × Option Blk)).foldl (fun m p=>upd m p.1 p.2) s.m) x:=fun x hx=>by
  rw[hmem]
  exact eg_ _ _ (fun p hp e=>hx (by rw[←hzip,←e];exact List.mem_map.2 ⟨p,hp,rfl⟩))
 have hcase:∀x b,(fl_ η η' k rs Lr).mem s.m x=some b→(∃i c,i<η'.length∧x=η'.getD i 0∧Lr[i]? = some c∧b=rnB η' c)∨(x ∉ η'∧x ∉ η∧s.m x=some b):=fun x b hb=>by
  by_cases hx:x∈η'
  ·obtain⟨i,hi,rfl⟩:=List.mem_iff_getElem.1 hx
   have hl:i<Lr.length:=by omega
   have e:η'.getD i 0=η'[i]:=by rw[List.getD_eq_getElem?_getD,List.getElem?_eq_getElem hi];rfl
   have:=hm1 i Lr[i] (List.getElem?_eq_getElem hl)
   rw[e,hb]at this
   exact .inl ⟨i,Lr[i],hi,e.symm,List.getElem?_eq_getElem hl,by simpa using this⟩
  rw[hm2 x hx]at hb
  have h1:x ∉ η.drop k:=fun h=>by rw[x0_ _ _ h]at hb;cases hb
  have h2:x ∉ η:=fun h=>by
   rw[←List.take_append_drop k η]at h
   rcases List.mem_append.1 h with h|h
   ·rw[←hpre]at h;exact hx (List.mem_of_mem_take h)
   exact h1 h
  rw[eg_ _ _ (fun p hp e=>h1 (by obtain⟨y,hy,rfl⟩:=List.mem_map.1 hp;exact e ▸ hy))]at hb
  exact .inr ⟨hx,h2,hb⟩
 have hPb:∀g,rs_ (cz_ η φ) L0 g→∃i,i<η.length∧φ (η.getD i 0)=some (some g):=fun g ⟨i,hi,h1⟩=>by
  rw[b2_ (by omega)]at h1;exact⟨i,by omega,h1⟩
 have hnotPb:∀x b g,x ∉ η→s.m x=some b→φ x=some (some g)→¬rs_ (cz_ η φ) L0 g:=fun x b g hx hb hg hpb=>by
  obtain⟨i,hi,h1⟩:=hPb g hpb
  obtain⟨c,hc⟩:=hold i hi
  have:=hr.inj x _ b c g hb hc hg h1
  exact hx (by rw[this];exact hin0 i hi)
 have hfreeS:∀g,C.S φ s.m g→¬rs_ (cz_ η φ) L0 g:=fun g hg hpb=>by
  obtain⟨i,hi,h1⟩:=hPb g hpb
  obtain⟨c,hc⟩:=hold i hi
  exact hg.2 _ c hc h1
 have hnw:∀i g,k≤i→φr i=some (some g)→w.heap.size≤g∨∃j,j<η.length∧φ (η.getD j 0)=some (some g):=fun i g hi h=>by
  rcases hp.new i g hi h with h|⟨j,h1,h2,h3⟩
  ·exact .inl h
  rw[b2_ (by omega)]at h3;exact .inr ⟨j,by omega,h3⟩
 have hFree:∀g,(C.S φ s.m g∧g<w.heap.size)∨SOfU (cz_ η φ) φr (C.S φ s.m) w L0 Lr g→C.S φ' ((fl_ η η' k rs Lr).mem s.m) g:=fun g hg=>by
  refine⟨?_,fun x b hb h1=>?_⟩
  ·rcases hg with hg|hg
   ·exact hg.1.1
   rcases hg.1 with h1|h1|h1
   ·exact h1.1
   ·exact .inr (Nat.le_trans hr.frame.size h1)
   obtain⟨i,hi,h1⟩:=hPb g h1
   obtain⟨c,hc⟩:=hold i hi
   rcases hr.own _ c g hc h1 with h2|h2
   ·exact .inl (C.sub g h2)
   exact .inr h2
  rcases hcase x b hb with⟨i,c,hi,rfl,hc,rfl⟩|⟨hx,hx0,hb'⟩
  ·rw[←hφ' i hi]at h1
   rcases hg with⟨hg,hlt⟩|hg
   ·by_cases hik:i<k
    ·rw[hp.same i hik,b2_ (by omega)]at h1
     obtain⟨c',hc'⟩:=hold i (by omega)
     exact hg.2 _ c' hc' h1
    rcases hnw i g (by omega) h1 with h2|⟨j,hj,h2⟩
    ·omega
    obtain⟨c',hc'⟩:=hold j hj
    exact hg.2 _ c' hc' h2
   exact hg.2 i c hc h1
  rw[hother x hx]at h1
  rcases hg with⟨hg,_⟩|hg
  ·exact hg.2 x b hb' h1
  rcases hg.1 with h2|h2|h2
  ·exact h2.2 x b hb' h1
  ·have:=(hr.mem x b hb').lt h1;omega
  exact hnotPb x b g hx0 hb' h1 h2
 have hset:∀g,C.S φ s.m g→g<w.heap.size→C.S φ' ((fl_ η η' k rs Lr).mem s.m) g∧w'.heap[g]? = w.heap[g]?:=fun g hg hlt=>
  ⟨hFree g (.inl ⟨hg,hlt⟩),hp.frame.block g hlt (hfreeS g hg)⟩
 have hkeep:KeepsW φ' φ' (SOfU (cz_ η φ) φr (C.S φ s.m) w L0 Lr) (C.S φ' ((fl_ η η' k rs Lr).mem s.m)) w' w':=⟨fun _ _ h=>h,fun g hg _=>⟨hFree g (.inr hg),rfl⟩,Nat.le_refl _,fun _ _ h=>h⟩
 refine⟨φ',hr.step hphi (fun x hx=>?_) hset hp.frame (fun g hpb=>?_) (fun x b hb=>?_) (fun x x' b b' g h1 h2 h3 h4=>?_) (fun x b g hb hg=>?_),?_⟩
 ·simp only[fl_,Eff.use,Bool.or_eq_true]
  by_cases hm:x∈η'.drop k
  ·exact .inr (by simpa using hm)
  simp only[φ',hm,if_false]at hx;exact .inl (hr.used x hx)
 ·obtain⟨i,hi,h1⟩:=hPb g hpb
  obtain⟨c,hc⟩:=hold i hi
  exact hr.own _ c g hc h1
 ·rcases hcase x b hb with⟨i,c,hi,rfl,hc,rfl⟩|⟨hx,hx0,hb'⟩
  ·refine .inr (MR.keep hkeep (fun _ _=>rfl) ?_)
   exact(MR.rn (η:=η') hφ' hi (hclr c (List.mem_of_getElem? hc))).1 (hp.mem i c hc)
  exact .inl ⟨hb',fun g hg=>hp.frame.block g ((hr.mem x b hb').lt hg) (hnotPb x b g hx0 hb' hg)⟩
 ·have key:∀i c y d,i<η'.length→Lr[i]? = some c→y ∉ η'→y ∉ η→s.m y=some d→φr i=some (some g)→φ y=some (some g)→False:=fun i c y d hi hc hy hy0 hd q1 q2=>by
   have hno:∀j,j<η.length→φ (η.getD j 0)=some (some g)→False:=fun j hj q3=>by
    obtain⟨c',hc'⟩:=hold j hj
    have:=hr.inj _ y c' d g hc' hd q3 q2
    exact hy0 (by rw[←this];exact hin0 j hj)
   by_cases hik:i<k
   ·rw[hp.same i hik,b2_ (by omega)]at q1
    exact hno i (by omega) q1
   rcases hnw i g (by omega) q1 with q3|⟨j,hj,q3⟩
   ·have:=(hr.mem y d hd).lt q2;omega
   exact hno j hj q3
  rcases hcase x b h1 with⟨i,c,hi,rfl,hc,rfl⟩|⟨hx,hx0,hb1⟩<;>rcases hcase x' b' h2 with⟨j,d,hj,rfl,hd,rfl⟩|⟨hx',hx0',hb2⟩
  ·rw[←hφ' i hi]at h3;rw[←hφ' j hj]at h4
   obtain rfl:=hp.inj i j g (by omega) (by omega) h3 h4
   rfl
  ·rw[←hφ' i hi]at h3;rw[hother x' hx']at h4
   exact(key i c x' b' hi hc hx' hx0' hb2 h3 h4).elim
  ·rw[hother x hx]at h3;rw[←hφ' j hj]at h4
   exact(key j d x b hj hd hx hx0 hb1 h4 h3).elim
  rw[hother x hx]at h3;rw[hother x' hx']at h4
  exact hr.inj x x' b b' g hb1 hb2 h3 h4
 ·rcases hcase x b hb with⟨i,c,hi,rfl,hc,rfl⟩|⟨hx,hx0,hb1⟩
  ·rw[←hφ' i hi]at hg
   have hno:∀j,j<η.length→φ (η.getD j 0)=some (some g)→C.Pb g∨C.w0.heap.size≤g:=fun j hj q3=>by
    obtain⟨c',hc'⟩:=hold j hj
    exact hr.own _ c' g hc' q3
   by_cases hik:i<k
   ·rw[hp.same i hik,b2_ (by omega)]at hg
    exact hno i (by omega) hg
   rcases hnw i g (by omega) hg with q3|⟨j,hj,q3⟩
   ·exact .inr (Nat.le_trans hr.frame.size q3)
   exact hno j hj q3
  rw[hother x hx]at hg
  exact hr.own x b g hb1 hg
 exact((VRs.rn (η:=η') hφ' hcl).1 hp.res).keep hkeep |>.wrap
theorem atq_ {fo:Operand} {a0s:Array Operand} {ts:Array TypeId} {f:FuncId} {first caps vs rs:List V} {k:Nat} {L0 Lr:List Blk} (η η':List Nat) (hp:PC E o s) (ho:o.op = .call { callee:=.value fo,args:=a0s,argTypes:=ts }) (hf:s.pv E fo = .fn (.func f) first caps)
  (hA:n5_ E f vs L0 k rs Lr) (hargs:les (first++a0s.toList.map (s.pv E)++caps) (rns η vs)) (hη:η.length=L0.length) (hk:k≤η.length) (hpre:η'.take k=η.take k) (hlr:η'.length=Lr.length) (hle:k≤η'.length) (hnd:η'.Nodup) (hndη:η.Nodup)
  (hm0:∀i b,L0[i]? = some b→s.m (η.getD i 0)=some (rnB η b)) (hv:cls η.length vs=true) (hv0:∀b∈L0,clr η.length b.rows=true) (hcl:cls η'.length rs=true) (hclr:∀b∈Lr,clr η'.length b.rows=true):Op1 E o s (fl_ η η' k rs Lr):=by
 have of:fo∈o.op.operands:=by simp[ho,Op.operands,Call.operands]
 have oa:∀x∈a0s.toList,x∈o.op.operands:=fun x hx=>by simp[ho,Op.operands,Call.operands];exact .inr (Array.mem_toList_iff.1 hx)
 intro s' e1 e2 e3 C φ a w hr K Q hK
 have rd:∀x∈o.op.operands,VR φ (C.S φ s'.m) w (s.pv E x) (a.eval x):=fun x hx=>by
  have e:=e1 x hx
  have:=hr.pv (x:=x) (by rw[e];exact hp x hx)
  unfold St.pv at this ⊢
  rwa [e]at this
 have hfv:=rd fo of
 rw[hf]at hfv
 simp only[VR]at hfv
 obtain⟨fa,ca,hfe,hfa,hca⟩:=hfv
 have hrun:=vy_ (E:=E) (w:=w) ho hfe hA.1
 have hvs:=(hfa.append (VRs.map (s.pv E) a.eval a0s.toList fun x hx=>rd x (oa x hx))).append hca
 have hvs:=hvs.le hargs
 have hφ:∀i,i<η.length→cz_ η φ i=φ (η.getD i 0):=fun i hi=>b2_ hi
 have hm0':∀i b,L0[i]? = some b→s'.m (η.getD i 0)=some (rnB η b):=fun i b hb=>by
  have hi:i<η.length:=by rw[hη];exact(List.getElem?_eq_some_iff.1 hb).1
  rw[e2 _ (by simp only[fl_];rw[List.getD_eq_getElem?_getD,List.getElem?_eq_getElem hi];exact List.getElem_mem hi)]
  exact hm0 i b hb
 have hpr:Pre E (cz_ η φ) (C.S φ s'.m) w vs L0 (fa++a0s.map a.eval++ca):=by
  refine⟨(VRs.rn hφ hv).2 (by simpa using hvs),fun i b hb=>?_,fun i j g hi hj h1 h2=>?_,fun g hg i b hb h1=>?_,fun g cs hg=>hr.glob g cs hg,fun l hl=>?_,?_⟩
  ·have hi:i<η.length:=by rw[hη];exact(List.getElem?_eq_some_iff.1 hb).1
   exact(MR.rn hφ hi (hv0 b (List.mem_of_getElem? hb))).2 (hr.mem _ _ (hm0' i b hb))
  ·rw[b2_ (by omega)]at h1 h2
   have:=hr.inj _ _ _ _ g (hm0' i L0[i] (List.getElem?_eq_getElem hi)) (hm0' j L0[j] (List.getElem?_eq_getElem hj)) h1 h2
   rw[List.getD_eq_getElem?_getD,List.getD_eq_getElem?_getD,List.getElem?_eq_getElem (by omega),List.getElem?_eq_getElem (by omega)]at this
   exact(List.getElem_inj hndη).1 this
  ·have hi:i<η.length:=by rw[hη];exact(List.getElem?_eq_some_iff.1 hb).1
   rw[b2_ hi]at h1
   exact hg.2 _ _ (hm0' i b hb) h1
  ·rcases Nat.lt_or_ge l η.length with h|h
   ·omega
   simp[cz_,List.getElem?_eq_none h]at hl
  obtain⟨B,b1,b2,b3⟩:=hr.lad
  refine⟨B,hr.ladW b1 b2 b3,Nat.le_trans b2 hr.frame.size,fun i g hg=>?_⟩
  have hi:i<η.length:=by
   rcases Nat.lt_or_ge i η.length with h|h
   ·exact h
   simp[cz_,List.getElem?_eq_none h]at hg
  rw[b2_ hi]at hg
  rcases hr.own _ _ g (hm0' i L0[i] (List.getElem?_eq_getElem (by omega))) hg with h1|h1
  ·exact b3 g h1
  omega
 unfold Oper.wp
 rw[hrun]
 refine(hA.2 _ _ _ _ hpr).mono fun en w' hen=>?_
 obtain⟨xs,φr,rfl,hpost⟩:=hen
 have hnew:∀l∈η'.drop k,s'.u l=false:=fun l hl=>e3 l hl
 obtain⟨φ',r1,r2⟩:=hr.calledU hη hk hpre hlr hle hnd hndη hm0' hnew hcl hclr hpost
 exact hK φ' _ _ (r1.put o.dst r2)
def jb_ {f:FuncId} {vs rs:List V} {k:Nat} {L0 Lr:List Blk} (η η':List Nat) (A:n5_ E f vs L0 k rs Lr):CallC E where
 ef:=fun _ _=>fl_ η η' k rs Lr
 ob:=fun o s=>pcB E o s=true∧oy_ E f (rns η vs) o s∧aw_ s.m η η L0∧k≤η.length∧η'.take k=η.take k∧η'.length=Lr.length∧k≤η'.length∧η'.Nodup∧η.Nodup∧cls η.length vs=true∧a5_ η.length L0=true∧cls η'.length rs=true∧a5_ η'.length Lr=true
 ok:=fun o s ⟨h1,h2,h3,h4,h5,h6,h7,h8,h9,h10,h11,h12,h13⟩=>by
  obtain⟨fo,a0s,ts,first,caps,ho,hf,ha⟩:=n7_ h2
  obtain⟨k1,k2⟩:=i3_ h3
  exact atq_ (E:=E) (s:=s) (o:=o) η η' (a4_ h1) ho hf A ha k1 h4 h5 h6 h7 h8 h9 k2 h10 (ha_ h11) h12 (ha_ h13)
theorem wt_ {f:FuncId} {fn:Func} {c:Code} {vs rs:List V} {k:Nat} {L0 Lr:List Blk} (η:List Nat) (hf:E.P.funcs[f]? = some fn) (hb:fn.body=some c) (hname:(fn.name== "runtime.NumGoroutine")=false) (hk:L0.length≤10) (hk2:k≤L0.length)
  (h:∀C,AWp E C c (fun e s=>(e = .normal∨e = .ret)∧Out E fn k rs Lr η s) (ma_ fn vs L0)):n5_ E f vs L0 k rs Lr:=by
 refine⟨fun args w=>?_,fun φ S w args hp=>?_⟩
 ·simp[callFunc,hf,hb]
  simpa using hname
 let C:Cx:=⟨w,φ,fun g=>S g∨rs_ φ L0 g,rs_ φ L0,fun l hl=>by have:=hp.low l hl;simp only[tc_,Bool.or_eq_true,decide_eq_true_eq];omega,fun g hg=>.inr hg⟩
 have hS:C.S φ (lq_ L0)=fun g=>(S g∨w.heap.size≤g)∧wi_ φ (lq_ L0) g:=by
  funext g
  simp only[Cx.S,C,eq_iff_iff]
  refine⟨fun⟨h1,h2⟩=>⟨?_,h2⟩,fun⟨h1,h2⟩=>⟨?_,h2⟩⟩
  ·rcases h1 with(h1|⟨i,hi,h1⟩)|h1
   ·exact .inl h1
   ·exact absurd h1 (h2 i L0[i] (List.getElem?_eq_getElem hi))
   exact .inr h1
  rcases h1 with h1|h1
  ·exact .inl (.inl h1)
  exact .inr h1
 have hkeep:KeepsW φ φ S (C.S φ (lq_ L0)) w w:=⟨fun _ _ h=>h,fun g hg _=>⟨by rw[hS];exact⟨.inl hg,hp.free g hg⟩,rfl⟩,Nat.le_refl _,fun _ _ h=>h⟩
 have hlen:args.size=vs.length:=by rw[←hp.args.len];simp
 have nos:∀n,VRs φ (C.S φ (lq_ L0)) w (List.replicate n V.no) (List.replicate n undef):=fun n=>by
  induction n with
  |zero=>exact .nil
  |succ n ih=>exact .cons (by simp only[VR]) ih
 have hr:RelAt E C φ (ma_ fn vs L0) { tmps:=args++Array.replicate (fn.ntmps - args.size) undef,defers:=[] } w:=by
  refine⟨rfl,?_,fun l b hb=>(hp.mem l b hb).keep hkeep fun _ _=>rfl,fun l l' b b' g h1 h2 h3 h4=>?_,fun l b g h1 h3=>.inl ⟨l,(List.getElem?_eq_some_iff.1 h1).1,h3⟩,fun l hl=>?_,fun _ _ h=>h,FrameW.refl _ _,fun g cs hg=>(hp.glob g cs hg).keep (φ':=fun _=>none) ⟨fun _ _ h=>h,hkeep.set,Nat.le_refl _,fun _ _ h=>h⟩,?_⟩
  ·simp only[ma_,Array.toList_append,Array.toList_replicate,hlen]
   exact(hp.args.keep hkeep).append (nos _)
  ·exact hp.inj l l' g (List.getElem?_eq_some_iff.1 h1).1 (List.getElem?_eq_some_iff.1 h2).1 h3 h4
  ·have:=hp.low l hl
   simp only[ma_,tc_,Bool.or_eq_true,decide_eq_true_eq];omega
  obtain⟨B,b1,b2,b3⟩:=hp.lad
  exact⟨B,b1,b2,fun g ⟨i,_,hi⟩=>b3 i g hi⟩
 refine calls_of_wp hf hb (wp_mono (h C φ _ w hr) fun e a' w' ⟨φ',s',⟨he,ho⟩,r⟩=>?_)
 obtain⟨xs,x1,x2⟩:=mi_ r fn.results.toList ho.can
 have hres:(results fn a'.tmps).run E.P w' = .ok (ga_ xs) w':=by
  rw[vo_,Array.mapM_eq_mapM_toList]
  simp only[Sem.run_bind,Sem.run_map,x1,Result.andThen_ok,Sem.run_pure]
  rw[aei_]
 have hlow:∀i,i<L0.length→φ' i=φ i:=fun i hi=>by
  rcases hp.mem i L0[i] (List.getElem?_eq_getElem hi)with⟨h1,_⟩|⟨g,_,_,h1,_⟩|⟨g,_,_,_,h1,_⟩<;>rw[h1]<;>exact r.phi0 i _ h1
 have hηi:∀i,i<k→η.getD i 0=i:=fun i hi=>by
  have h2:(η.take k)[i]? = some i:=by rw[ho.pre,List.getElem?_range hi]
  rw[List.getElem?_take_of_lt hi]at h2
  rw[List.getD_eq_getElem?_getD,h2];rfl
 have hφ:∀i,i<η.length→cz_ η φ' i=φ' (η.getD i 0):=fun i hi=>b2_ hi
 have hle:=ho.le
 have hlenη:=ho.len
 have hSO:∀g,C.S φ' s'.m g→SOfU φ (cz_ η φ') S w L0 Lr g:=fun g ⟨h1,h2⟩=>by
  refine⟨?_,fun i b hb h3=>?_⟩
  ·rcases h1 with(h1|h1)|h1
   ·exact .inl h1
   ·exact .inr (.inr h1)
   exact .inr (.inl h1)
  have hi:i<η.length:=by rw[hlenη];exact(List.getElem?_eq_some_iff.1 hb).1
  rw[hφ i hi]at h3
  exact h2 _ _ (ho.mem i b hb) h3
 have hkS:KeepsW (cz_ η φ') (cz_ η φ') (C.S φ' s'.m) (SOfU φ (cz_ η φ') S w L0 Lr) w' w':=⟨fun _ _ h=>h,fun g hg _=>⟨hSO g hg,rfl⟩,Nat.le_refl _,fun _ _ h=>h⟩
 have hpost:PostU φ S w L0 k rs Lr (cz_ η φ') xs w':=by
  refine⟨fun i hi=>?_,?_,fun i b hb=>?_,fun i g hi h3=>?_,fun i j g hi hj h3 h4=>?_,r.frame⟩
  ·rw[hφ i (by omega),hηi i hi,hlow i (by omega)]
  ·have x2:=x2.le ho.res
   exact((VRs.rn hφ (by rw[hlenη];exact ho.cl)).2 x2).keep hkS
  ·have hi:i<η.length:=by rw[hlenη];exact(List.getElem?_eq_some_iff.1 hb).1
   exact((MR.rn hφ hi (by rw[hlenη];exact ho.clr b (List.mem_of_getElem? hb))).2 (r.mem _ _ (ho.mem i b hb))).keep hkS fun _ _=>rfl
  ·rcases Nat.lt_or_ge i η.length with hlt|hge
   ·rw[hφ i hlt]at h3
    have hbi:=ho.mem i Lr[i] (List.getElem?_eq_getElem (by omega))
    rcases r.own _ _ g hbi h3 with⟨j,hj,h5⟩|h5
    ·refine .inr ⟨j,?_,hj,h5⟩
     rcases Nat.lt_or_ge j k with hjk|hjk
     ·exfalso
      have hbj:=ho.mem j Lr[j] (List.getElem?_eq_getElem (by omega))
      have:=r.inj _ _ _ _ g hbi hbj h3 (by rw[hηi j hjk,hlow j hj];exact h5)
      rw[List.getD_eq_getElem?_getD,List.getD_eq_getElem?_getD,List.getElem?_eq_getElem hlt,List.getElem?_eq_getElem (show j<η.length by omega)]at this
      have:=(List.getElem_inj ho.nd).1 this
      omega
     exact hjk
    exact .inl h5
   simp[cz_,List.getElem?_eq_none hge]at h3
  have hi':i<η.length:=by omega
  have hj':j<η.length:=by omega
  rw[hφ i hi']at h3;rw[hφ j hj']at h4
  have:=r.inj _ _ _ _ g (ho.mem i Lr[i] (List.getElem?_eq_getElem hi)) (ho.mem j Lr[j] (List.getElem?_eq_getElem hj)) h3 h4
  rw[List.getD_eq_getElem?_getD,List.getD_eq_getElem?_getD,List.getElem?_eq_getElem hi',List.getElem?_eq_getElem hj']at this
  exact(List.getElem_inj ho.nd).1 this
 have hd:a'.defers=[]:=r.defers
 rcases he with rfl|rfl
 ·exact⟨hd,ga_ xs,hres,xs,_,rfl,hpost⟩
 exact⟨hd,ga_ xs,hres,xs,_,rfl,hpost⟩
end
end
section
open Go.RowKit
def qe_:V:=.q fun x=>x = .slice none 0 0
def bA (l:Nat):Nat→V
 |0=>.np
 |_+1=>.pt l 2 0 0
def bB (l:Nat):Nat→V
 |0=>qe_
 |n+1=>.ow l 1 0 (n+1)
def sdV (l:Nat):Nat→V
 |0=>.np
 |_+1=>.pt l 1 0 0
theorem a59_ (η:List Nat) (l n:Nat):rn η (bA l n)=bA (η.getD l 0) n:=by cases n<;>simp only[bA,rn]
theorem a6q_ (η:List Nat) (l n:Nat):rn η (bB l n)=bB (η.getD l 0) n:=by cases n<;>simp only[bB,qe_,rn]
theorem a5o_ (k l n:Nat):V.cl k (bA l n)=(decide (l<k)||n==0):=by cases n<;>simp[bA,V.cl]
theorem a5b_ (k l n:Nat):V.cl k (bB l n)=(decide (l<k)||n==0):=by cases n<;>simp[bB,qe_,V.cl]
theorem a1p_ (u:Nat→Bool) (l n:Nat):V.inn u (bA l n)=(u l||n==0):=by cases n<;>simp[bA,V.inn]
theorem a3a_ (u:Nat→Bool) (l n:Nat):V.inn u (bB l n)=(u l||n==0):=by cases n<;>simp[bB,qe_,V.inn]
theorem a1x_ (l n:Nat):V.one (bA l n)=true:=by cases n<;>rfl
theorem a2n_ (l n:Nat):V.one (bB l n)=true:=by cases n<;>rfl
theorem a1h_ (l n:Nat):okC (bB l n)=true:=by cases n<;>rfl
theorem aqq_ (l n:Nat):V.cells (bB l n)=[bB l n]:=by cases n<;>rfl
theorem a41_ {α:Type} (l n:Nat) (f:List V→α) (g:V→α):V.cells.match_1 (fun _=>α) (bB l n) f g=g (bB l n):=by cases n<;>rfl
theorem a3t_ {α:Type} (l n:Nat) (a b:List V→α) (c:Bool→V→α) (d:Unit→α) (e:V→α):V.one.match_1 (fun _=>α) (bB l n) a b c d e=e (bB l n):=by cases n<;>rfl
theorem nb_ (l n:Nat):peel (bB l n)=bB l n:=by cases n<;>rfl
theorem apv_ (l n:Nat):dg_ (bB l n)=true:=by cases n<;>rfl
theorem acy_ (l n:Nat):peel (sdV l n)=sdV l n:=by cases n<;>rfl
theorem anq_ (l n:Nat):dg_ (sdV l n)=true:=by cases n<;>rfl
theorem a45_ (l n:Nat):leV (bA l n) .no=True:=by cases n<;>simp[bA,leV]
theorem a4q_ (l n:Nat):leV (bB l n) .no=True:=by cases n<;>simp[bB,qe_,leV]
theorem a24_ (l n:Nat):leV (sdV l n) .no=True:=by cases n<;>simp[sdV,leV]
theorem a20_ (l n:Nat):bA l (n+1) = .pt l 2 0 0:=rfl
def eqB:BinOp→Bool→Bool
 |.neq,t=>!t
 |_,t=>t
def ptrV (op:BinOp) (x y:V):V:=
 match x,y with
 |.np,.np=>.b (eqB op true)
 |.pt _ _ _ _,.np=>.b (eqB op false)
 |.pt _ _ _ _,.pt _ _ _ _=>.b (eqB op true)
 |_,_=>.no
def ptrC (op:BinOp) (x y:V):Prop:=
 (op = .eql∨op = .neq)∧match x,y with
 |.np,.np=>True
 |.pt _ z _ _,.np=>0<z
 |.pt l z r c,.pt l' z' r' c'=>0<z∧l=l'∧z=z'∧r=r'∧c=c'
 |_,_=>False
section
variable {E:Env} {C:Cx} {φ:Phi} {s:St} {o:Oper} {a:Act} {w w':World}
theorem a2d_ {op:BinOp} {t t' te:TypeId} {x y:Operand} {j:TypeInfo} (hp:PC E o s) (ho:o.op = .binOp op t x y t') (hu:E.P.underlying t=some (.pointer te)) (hj:E.P.info? te=some j) (h:ptrC op (s.pv E x) (s.pv E y)) :
  Op1 E o s { v:=ptrV op (s.pv E x) (s.pv E y) }:=by
 refine Op1.pure' hp fun φ S w ρ hr _=>?_
 have h1:=hr x (by simp[ho,Op.operands])
 have h2:=hr y (by simp[ho,Op.operands])
 have hn:E.P.underlying t=some (.pointer (E.P.pointee t)):=by simp only[Program.pointee,hu]
 have go:∀p b,ρ x = .pointer p→(binOp op t (ρ x) (ρ y)).run E.P w = .ok (.bool b) w→ptrV op (s.pv E x) (s.pv E y) = .b b→∃x',(execOp ρ o).run E.P w = .ok (.value x') w∧VR φ S w (ptrV op (s.pv E x) (s.pv E y)) x':=fun p b g1 g2 g3=>
  ⟨.bool b,by
   have hg:=j5_ op t x y (ρ x) (ρ y) E.P w (by rw[g1];intro c;simp) (by rw[g1];simp)
   simp[execOp,ho,hg,g2],by rw[g3];simp only[VR]⟩
 obtain⟨hop,h⟩:=h
 generalize s.pv E x=vx at *
 generalize s.pv E y=vy at *
 cases vx<;>cases vy<;>try exact h.elim
 case pt.pt l z r c l' z' r' c'=>
  obtain⟨hz,rfl,rfl,rfl,rfl⟩:=h
  simp only[VR]at h1 h2
  obtain⟨g,g1,g2⟩:=h1
  obtain⟨g',g3,g4⟩:=h2
  rw[g1]at g3;cases g3
  rw[dq_ hz]at g2 g4
  rcases hop with rfl|rfl
  ·exact go _ true g2 (by rw[g2,g4];exact run_eql_ptr_same w _ hu hj) rfl
  exact go _ false g2 (by rw[g2,g4];exact Lib.run_neq_ptr_same w _ hu hj) rfl
 case pt.np l z r c=>
  simp only[VR]at h1 h2
  obtain⟨g,g1,g2⟩:=h1
  rw[dq_ h]at g2
  rcases hop with rfl|rfl
  ·exact go _ false g2 (by rw[g2,h2];exact run_eql_pointer_nil w t _ hn) rfl
  exact go _ true g2 (by rw[g2,h2];exact run_neq_pointer_nil w t _ hn) rfl
 case np.np=>
  simp only[VR]at h1 h2
  rcases hop with rfl|rfl
  ·exact go _ true h1 (by rw[h1,h2];exact run_eql_pointer_nil w t _ hn) rfl
  exact go _ false h1 (by rw[h1,h2];exact run_neq_pointer_nil w t _ hn) rfl
def ptrO (E:Env) (op:BinOp) (vx vy:V):CallC E where
 ef:=fun _ _=>{ v:=ptrV op vx vy }
 ob:=fun o s=>∃t t' te x y j,pcB E o s=true∧o.op = .binOp op t x y t'∧E.P.underlying t=some (.pointer te)∧E.P.info? te=some j∧s.pv E x=vx∧s.pv E y=vy∧ptrC op vx vy
 ok:=fun o s ⟨_,_,_,_,_,_,h1,h2,h3,h4,h5,h6,h7⟩=>by
  subst h5 h6;exact a2d_ (a4_ h1) h2 h3 h4 h7
theorem axw_ {fo x:Operand} {ts:Array TypeId} {f:FuncId} (hp:PC E o s) (ho:o.op = .call { callee:=.value fo,args:=#[x],argTypes:=ts }) (hf:s.pv E fo = .fn (.func f) [] []) (H:∀v w,(callFunc f #[v]).run E.P w = .ok (.value v) w) :
  Op1 E o s { v:=s.pv E x }:=by
 refine Op1.pure' hp fun φ S w ρ hr _=>?_
 have h1:=hr fo (by simp[ho,Op.operands,Call.operands])
 have h2:=hr x (by simp[ho,Op.operands,Call.operands])
 rw[hf]at h1
 simp only[VR,VRs]at h1
 obtain⟨fa,ca,e1,e2,e3⟩:=h1
 obtain rfl:fa=#[]:=by apply Array.ext';simpa using e2
 obtain rfl:ca=#[]:=by apply Array.ext';simpa using e3
 refine⟨ρ x,?_,h2⟩
 simp only[execOp,ho,resolve,e1,Deferred.ofValue,Sem.run_bind,Sem.run_pure,Result.andThen_ok,invoke]
 simpa using H (ρ x) w
def a0k_ (E:Env) (f:FuncId) (v:V) (H:∀v w,(callFunc f #[v]).run E.P w = .ok (.value v) w):CallC E where
 ef:=fun _ _=>{ v:=v }
 ob:=fun o s=>∃fo x ts,pcB E o s=true∧o.op = .call { callee:=.value fo,args:=#[x],argTypes:=ts }∧s.pv E fo = .fn (.func f) [] []∧s.pv E x=v
 ok:=fun o s ⟨_,_,_,h1,h2,h3,h4⟩=>by
  subst h4;exact axw_ (a4_ h1) h2 h3 H
theorem MR.arr {S:Nat→Prop} {l z g:Nat} {b:Blk} (h:MR φ S w l b) (hz:b.z=z) (h0:0<z) (hg:φ l=some (some g)):∃arr xs,w.heap[g]? = some (.cells arr b.T (0,0))∧VRr φ S w z b.rows xs∧arr.toList.take xs.length=xs∧b.rows.length * z≤arr.size:=by
 rcases h with⟨k1,_⟩|⟨g',arr,xs,k1,k2,k3,k4,_⟩|⟨_,_,_,_,_,_,k1,_⟩
 ·rw[hg]at k1;cases k1
 ·rw[hg]at k1;cases k1
  subst hz
  refine⟨arr,xs,k2,k3,k4,?_⟩
  have:=congrArg List.length k4
  rw[List.length_take,k3.len,Array.length_toList]at this
  omega
 omega
theorem adm_ {P:Program} {e:TypeId} {n count:Nat} (hc:P.cellsOf e=n) (hn:0<n) (h:1≤count):liesAt P P.depth e count 0 e 1=true:=by
 have hd:P.depth=(2 * (P.types.size+Made.depth)+1)+1:=rfl
 have hn0:n≠0:=by omega
 rw[hd]
 simp only[liesAt,Bool.or_eq_true]
 left
 rw[hd]
 simp[rowAt,hc,hn0,sameLayout,h]
theorem a0y_ {src dst t:TypeId} {x:Operand} {l z:Nat} {b:Blk} {j:TypeInfo} (hp:PC E o s) (ho:o.op = .convert src dst x) (hs:E.P.underlying src=some (.pointer t)) (hd:E.P.underlying dst=some .unsafePointer) (hj:E.P.info? t=some j) (hj0:j.size≠0)
  (hx:s.pv E x = .pt l z 0 0) (hb:s.m l=some b) (hbz:b.z=z) (hz:0<z) (hne:0<b.rows.length):Op1 E o s { v:=.pt l z 0 0,rd:=[l] }:=by
 refine Op1.pure' hp fun φ S w ρ hr hm=>?_
 have h1:=hr x (by simp[ho,Op.operands])
 rw[hx]at h1
 simp only[VR]at h1
 obtain⟨g,g1,g2⟩:=h1
 rw[dq_ hz,Nat.zero_mul]at g2
 obtain⟨arr,xs,k1,k2,k3,k4⟩:=(hm l (by simp) b hb).arr hbz hz g1
 have hpos:0<arr.size:=Nat.lt_of_lt_of_le (Nat.mul_pos hne hz) k4
 have hrun:=Lib.run_to_unsafe (P:=E.P) w (src:=src) (dst:=dst) ⟨g,0,none⟩ hs hd hj hj0 (cr_ k1) hpos
 refine⟨.pointer (some ⟨g,0,none⟩),by simp[execOp,ho,g2,hrun],?_⟩
 simp only[VR];exact⟨g,g1,by rw[dq_ hz,Nat.zero_mul]⟩
def toUO (E:Env) (l z:Nat) (b:Blk):CallC E where
 ef:=fun _ _=>{ v:=.pt l z 0 0,rd:=[l] }
 ob:=fun o s=>∃src dst t x j,pcB E o s=true∧o.op = .convert src dst x∧E.P.underlying src=some (.pointer t)∧E.P.underlying dst=some .unsafePointer∧E.P.info? t=some j∧j.size≠0∧s.pv E x = .pt l z 0 0∧s.m l=some b∧b.z=z∧0<z∧0<b.rows.length
 ok:=fun o s ⟨_,_,_,_,_,h1,h2,h3,h4,h5,h6,h7,h8,h9,h10,h11⟩=>a0y_ (a4_ h1) h2 h3 h4 h5 h6 h7 h8 h9 h10 h11
theorem aru_ {src dst:TypeId} {x:Operand} {l z:Nat} {b:Blk} {j:TypeInfo} (hp:PC E o s) (ho:o.op = .convert src dst x) (hs:E.P.underlying src=some .unsafePointer) (hd:E.P.underlying dst=some (.pointer b.T)) (hj:E.P.info? b.T=some j) (hj0:j.size=z)
  (hx:s.pv E x = .pt l z 0 0) (hb:s.m l=some b) (hbz:b.z=z) (hz:0<z) (hne:0<b.rows.length):Op1 E o s { v:=.pt l z 0 0,rd:=[l] }:=by
 refine Op1.pure' hp fun φ S w ρ hr hm=>?_
 have h1:=hr x (by simp[ho,Op.operands])
 rw[hx]at h1
 simp only[VR]at h1
 obtain⟨g,g1,g2⟩:=h1
 rw[dq_ hz,Nat.zero_mul]at g2
 obtain⟨arr,xs,k1,k2,k3,k4⟩:=(hm l (by simp) b hb).arr hbz hz g1
 have hc:E.P.cellsOf b.T=z:=by simp[Program.cellsOf,hj,hj0]
 have hcount:1≤arr.size / E.P.cellsOf b.T:=by
  rw[hc];exact Nat.div_pos (Nat.le_trans (Nat.le_mul_of_pos_left z hne) k4) hz
 have hrun:=Lib.run_from_unsafe (P:=E.P) w (src:=src) (dst:=dst) ⟨g,0,none⟩ hs hd hj (cr_ k1) (adm_ hc hz hcount)
 refine⟨.pointer (some ⟨g,0,none⟩),by simp[execOp,ho,g2,hrun],?_⟩
 simp only[VR];exact⟨g,g1,by rw[dq_ hz,Nat.zero_mul]⟩
def aqg_ (E:Env) (l z:Nat) (b:Blk):CallC E where
 ef:=fun _ _=>{ v:=.pt l z 0 0,rd:=[l] }
 ob:=fun o s=>∃src dst x j,pcB E o s=true∧o.op = .convert src dst x∧E.P.underlying src=some .unsafePointer∧E.P.underlying dst=some (.pointer b.T)∧E.P.info? b.T=some j∧j.size=z∧s.pv E x = .pt l z 0 0∧s.m l=some b∧b.z=z∧0<z∧0<b.rows.length
 ok:=fun o s ⟨_,_,_,_,h1,h2,h3,h4,h5,h6,h7,h8,h9,h10,h11⟩=>aru_ (a4_ h1) h2 h3 h4 h5 h6 h7 h8 h9 h10 h11
theorem axl_ {t:TypeId} {l:Nat} {i:TypeInfo} (ho:o.op = .alloc t) (hi:E.P.info? t=some i) (hz:i.zero=some (.agg #[.pointer none,.slice none 0 0])):Op1 E o s { v:=.pt l 2 0 0,wr:=[(l,some ⟨t,2,[[.np,qe_]]⟩)],nw:=[l] }:=by
 refine Op1.of fun s' e1 _ e3 C φ a w hr=>?_
 have hv:VRs φ (C.S φ s'.m) w [.np,qe_] (#[.pointer none,.slice none 0 0]:Array Value).toList:=.cons (by simp only[VR]) (.cons (by simp[qe_,VR,Value.oneCell']) .nil)
 obtain⟨k1,k2⟩:=hr.box (e3 l (by simp)) (t:=t) rfl hv (fun u hu=>by simp at hu;rcases hu with rfl|rfl<;>rfl)
 exact⟨_,_,_,.inl (by simp[execOp,ho,Instr.alloc,zeroValue,typeInfo,hi,hz,newVar,newRow];rfl),k1,k2⟩
def yj_ (E:Env) (t l:Nat):CallC E where
 ef:=fun _ _=>{ v:=.pt l 2 0 0,wr:=[(l,some ⟨t,2,[[.np,qe_]]⟩)],nw:=[l] }
 ob:=fun o _=>∃i,o.op = .alloc t∧E.P.info? t=some i∧i.zero=some (.agg #[.pointer none,.slice none 0 0])
 ok:=fun o s ⟨_,h1,h2,h3⟩=>axl_ h1 h2 h3
theorem Can.newName {σ:List V} {L L':List (Nat × Blk)} {U:List Nat} (l T z:Nat) (hl:us U l=false) (hL:xk_ L l ⟨T,z,[]⟩=L'):Can E C ⟨σ,ae_ L,us U⟩ ⟨σ,ae_ L',us (U++[l])⟩:=fun φ a w hr=>by
 subst hL
 have:=hr.empty (l:=l) hl T z
 rw[←ok_]
 have e:us (U++[l])=fun x=>if x=l then true else us U x:=by
  funext x
  rw[←pv_]
  by_cases hx:x=l<;>simp[hx]
 rw[e]
 exact⟨_,this⟩
theorem azh_ {x:Operand} {t el l n:Nat} (hp:PC E o s) (ho:o.op = .call { callee:=.builtin .len,args:=#[x],argTypes:=#[t] }) (hu:E.P.underlying t=some (.slice el)) (hx:s.pv E x=bB l n):Op1 E o s { v:=.i .i64 n }:=by
 refine Op1.pure' hp fun φ S w ρ hr _=>?_
 have h1:=hr x (by simp[ho,Op.operands,Call.operands])
 rw[hx]at h1
 obtain⟨A,c,h2⟩:∃A c,ρ x = .slice A n c:=by
  cases n with
  |zero=>simp only[bB,qe_,VR]at h1;exact⟨_,_,h1.1⟩
  |succ n=>simp only[bB,VR]at h1;obtain⟨A,c,h2,_⟩:=h1;exact⟨A,c,h2⟩
 exact⟨_,by simp[execOp,ho,h2,resolve,invoke,builtin,Builtin.len_,run_underlying hu];rfl,by simp[VR,goInt]⟩
def att_ (E:Env) (l n:Nat):CallC E where
 ef:=fun _ _=>{ v:=.i .i64 n }
 ob:=fun o s=>∃x t el,pcB E o s=true∧o.op = .call { callee:=.builtin .len,args:=#[x],argTypes:=#[t] }∧E.P.underlying t=some (.slice el)∧s.pv E x=bB l n
 ok:=fun o s ⟨_,_,_,h1,h2,h3,h4⟩=>azh_ (a4_ h1) h2 h3 h4
theorem au3_ {x:Operand} {l n:Nat} {ts:Array TypeId} {b:Blk} (hp:PC E o s) (ho:o.op = .call { callee:=.builtin .unsafeSliceData,args:=#[x],argTypes:=ts }) (hx:s.pv E x=bB l n):Op1 E o s { v:=sdV l n }:=by
 refine Op1.pure' hp fun φ S w ρ hr _=>?_
 have h1:=hr x (by simp[ho,Op.operands,Call.operands])
 rw[hx]at h1
 cases n with
 |zero=>
  simp only[bB,qe_,VR]at h1
  exact⟨.pointer none,by simp[execOp,ho,h1.1,resolve,invoke,builtin,Lib.run_unsafeSliceData_nil],by simp only[sdV,VR]⟩
 |succ n=>
  simp only[bB,VR]at h1
  obtain⟨A,c,h2,h3,h4,h5⟩:=h1
  rcases h5 with h5|⟨g,T,m,k1,rfl,k3,k4⟩
  ·omega
  have hrun:=Lib.run_unsafeSliceData_row (P:=E.P) w ts o.type ⟨g,0 * 1,none⟩ (n+1) c (by omega)
  exact⟨_,by simp only[Nat.zero_mul]at hrun h2;simp[execOp,ho,h2,resolve,invoke,builtin,hrun];rfl,by simp only[sdV,VR];exact⟨g,k1,by rw[dq_ (by omega)]⟩⟩
def au1_ (E:Env) (l n:Nat):CallC E where
 ef:=fun _ _=>{ v:=sdV l n }
 ob:=fun o s=>∃x ts,pcB E o s=true∧o.op = .call { callee:=.builtin .unsafeSliceData,args:=#[x],argTypes:=ts }∧s.pv E x=bB l n
 ok:=fun o s ⟨_,_,h1,h2,h3⟩=>au3_ (b:=⟨0,0,[]⟩) (a4_ h1) h2 h3
end
end
section
open Go.RowKit
section
variable {E:Env} {s:St} {o:Oper}
theorem rn_ {φ:Phi} {S:Nat→Prop} {w:World}:∀r:Str,VRr φ S w 1 (byR r) (r.map fun b=>Value.int .u8 b.toNat)
 |[]=>.nil
 |c::r=>VRr.cons (r:=[.i .u8 c.toNat]) (ys:=[.int .u8 c.toNat]) rfl (.cons (by simp only[VR]) .nil) (fun u hu=>by simp at hu;subst hu;rfl) (rn_ r)
theorem kl_ {P:Program} {w:World} (t u ty el:TypeId) (i:TypeInfo) (ht:P.underlying t=some (.slice el)) (hu:P.underlying u=some .string) (hi:P.info? el=some i) (hs1:i.size=1) (A:Option Addr) (n c:Nat) (hn:n≤c) :
  (Builtin.append_ #[t,u] ty #[.slice A n c,.string ⟨([]:Str).toArray⟩]).run P w = .ok (.slice A n c) w:=by
 have hf:=Lib.run_firstCells_string (P:=P) w 1 ⟨([]:Str).toArray⟩
 have hz:(⟨([]:Str).toArray⟩:ByteArray).size=0:=rfl
 rw[hz]at hf
 simp[Builtin.append_,run_underlying ht,run_underlying hu,sizeOf,typeInfo,hi,hs1,Builtin.lenOf,hz,hn,hf,Lib.strCells]
 cases A<;>simp[storeCells]
theorem ahp_ {x y:Operand} {t u el yb l l' n:Nat} {r:Str} {b:Blk} (hp:PC E o s) (ho:o.op = .call { callee:=.builtin .append,args:=#[x,y],argTypes:=#[t,u] }) (ht:(ax_ E.P t).map (·.k)=some (.sl el 1 yb [.i .u8 0])) (hty:E.P.underlying u=some .string) (hyb:0<yb)
  (hx:s.pv E x = .ow l 1 0 n) (hy:s.pv E y = .s r) (hb:s.m l=some b) (hbz:b.z=1) (hbT:b.T=el) (hbn:n=b.rows.length) (hby:(n+r.length) * yb≤140737488355328) :
  Op1 E o s { v:=.ow l' 1 0 (n+r.length),wr:=[(l,none),(l',some ⟨el,1,b.rows++byR r⟩)],nw:=[l'],rd:=[l] }:=by
 have ox:x∈o.op.operands:=by simp[ho,Op.operands,Call.operands]
 have oy:y∈o.op.operands:=by simp[ho,Op.operands,Call.operands]
 refine Op1.of fun s' e1 e2 e3 C φ a w hr=>?_
 have h1:=hr.pv (x:=x) (by rw[e1 x ox];exact hp x ox)
 have h2:=hr.pv (x:=y) (by rw[e1 y oy];exact hp y oy)
 have e1x:s'.pv E x=s.pv E x:=by unfold St.pv;rw[e1 x ox]
 have e1y:s'.pv E y=s.pv E y:=by unfold St.pv;rw[e1 y oy]
 rw[e1x,hx]at h1;rw[e1y,hy]at h2
 obtain⟨hu,hzz,hyy,hzero⟩:=db_ ht
 obtain⟨i,zv,hi,hiz,hzv,hzn⟩:=c9_ (φ:=φ) (S:=C.S φ s'.m) (w:=w) hzero.symm rfl (dc_ (by rfl))
 have his:i.size=1:=by rw[hzz];simp[Program.cellsOf,hi]
 have hib:i.bytes=yb:=by rw[hyy];simp[Program.bytesOf,hi]
 have run0:∀v W,(Builtin.append_ #[t,u] o.type #[a.eval x,a.eval y]).run E.P w = .ok v W→(execOp a.eval o).run E.P w = .ok (.value v) W:=fun v W h=>by
  simp[execOp,ho,resolve,invoke,builtin,h]
 have hb':s'.m l=some b:=by rw[e2 l (by simp)];exact hb
 have hl':s'.u l'=false:=e3 l' (by simp)
 simp only[VR]at h1 h2
 obtain⟨A,c,f1,f2,f3,f4⟩:=h1
 have hmem:=hr.mem l b hb'
 have hsz:(⟨r.toArray⟩:ByteArray).size=r.length:=by simp[ByteArray.size]
 have hsm:n+r.length≤140737488355328:=Nat.le_trans (Nat.le_mul_of_pos_right _ hyb) hby
 have hnews:VRr φ (C.S φ s'.m) w 1 (byR r) (Lib.strCells ⟨r.toArray⟩):=by
  have:Lib.strCells ⟨r.toArray⟩=r.map fun b=>Value.int .u8 b.toNat:=by simp[Lib.strCells]
  rw[this];exact rn_ r
 subst hbT;subst hbn
 have fin:∀ {φ':Phi} {W:World} {x':Value},(execOp a.eval o).run E.P w = .ok (.value x') W→RelAt E C φ' ⟨s'.σ,upd (upd s'.m l none) l' (some ⟨b.T,b.z,b.rows++byR r⟩),fun x=>if x=l' then true else s'.u x⟩ a W→
   VR φ' (C.S φ' (upd (upd s'.m l none) l' (some ⟨b.T,b.z,b.rows++byR r⟩))) W (.ow l' b.z 0 (b.rows.length+r.length)) x'→
   ∃x w' φ',((execOp a.eval o).run E.P w = .ok (.value x) w'∨((execOp a.eval o).run E.P w = .ok .skip w'∧x=undef))∧RelAt E C φ' ⟨s'.σ,Eff.mem ⟨.ow l' 1 0 (b.rows.length+r.length),[(l,none),(l',some ⟨b.T,1,b.rows++byR r⟩)],[l'],[l]⟩ s'.m,Eff.use ⟨.ow l' 1 0 (b.rows.length+r.length),[(l,none),(l',some ⟨b.T,1,b.rows++byR r⟩)],[l'],[l]⟩ s'.u⟩ a w'∧
    VR φ' (C.S φ' (Eff.mem ⟨.ow l' 1 0 (b.rows.length+r.length),[(l,none),(l',some ⟨b.T,1,b.rows++byR r⟩)],[l'],[l]⟩ s'.m)) w' (.ow l' 1 0 (b.rows.length+r.length)) x:=fun {φ' W x'} g1 g2 g3=>
  ⟨x',W,φ',.inl g1,by rw[f0_];rw[hbz]at g2;exact g2,by rw[hbz]at g3;exact g3⟩
 by_cases hr0:r=[]
 ·subst hr0
  have hrun:=run0 _ _ (by rw[f1,h2];exact kl_ (w:=w) t u o.type b.T i hu hty hi his A b.rows.length c f2)
  have hmv:=hr.moveTo (w':=w) hb' hl' (rows:=b.rows++byR []) (by
   rcases hmem with⟨m1,m2⟩|⟨g,arr,xs,m1,m2,m3,m4,hzz⟩|⟨_,_,_,_,_,_,k1,_⟩
   ·exact .inl ⟨m1,by simp[m2,byR],rfl⟩
   ·exact .inr ⟨g,arr,arr,xs,m1,m2,rfl,m2,fun _ _=>rfl,rfl,⟨rfl,rfl,rfl⟩,by simpa[byR]using m3,m4⟩
   omega)
  exact fin hrun hmv (by
   simp only[VR,List.length_nil,Nat.add_zero]
   refine⟨A,c,rfl,f2,f3,?_⟩
   rcases f4 with f4|⟨g,T,mm,f4,f5⟩
   ·exact .inl f4
   exact .inr ⟨g,T,mm,by simpa using f4,by rw[hbz];exact f5⟩)
 have hrl:0<r.length:=List.length_pos_iff.2 hr0
 have hbl:(byR r).length=r.length:=by simp[byR]
 rw[hbz]at fin
 by_cases hroom:b.rows.length+r.length≤c
 ·rcases f4 with f4|⟨g,T,mm,k1,k2,k3,k4⟩
  ·omega
  subst k2
  rcases hmem with⟨m1,m2⟩|⟨g',arr,xs,m1,m2,m3,m4,hzz⟩|⟨_,_,_,_,_,_,k1,_⟩
  ·rw[k1]at m1;cases m1
  ·rw[k1]at m1;cases m1
   rw[cr_ m2]at k3
   cases k3
   rw[hbz]at m3
   have hxl:=m3.len
   have hra:=Lib.run_append_room_string (P:=E.P) w t u o.type b.T i hu hty hi his g b.rows.length c arr m2 ⟨r.toArray⟩ (by rw[hsz];exact hroom) (by rw[hsz];omega)
   rw[hsz]at hra
   have hrun:=run0 _ _ (by rw[f1,h2,Nat.zero_mul];exact hra)
   have ht:arr.toList.take b.rows.length=xs:=by rw[Nat.mul_one]at hxl;rw[←hxl];exact m4
   have hmv:=hr.moveTo (w':=w.setRow g (arr.toList.take b.rows.length++Lib.strCells ⟨r.toArray⟩++arr.toList.drop (b.rows.length+r.length)).toArray) hb' hl' (rows:=b.rows++byR r)
    (.inr ⟨g,arr,_,xs++Lib.strCells ⟨r.toArray⟩,k1,m2,by simp[Lib.strCells_length,hsz];omega,setRow_heap w g arr _ b.T (0,0) m2,fun k hk=>setRow_other w g k _ hk,by simp[World.setRow],⟨rfl,rfl,rfl⟩,by rw[hbz];exact m3.append hnews,by rw[ht];exact List.take_left⟩)
   rw[hbz]at hmv
   exact fin hrun hmv (by
    simp only[VR]
    exact⟨_,c,rfl,hroom,f3,.inr ⟨g,b.T,arr.size,by simpa using k1,by simp,by rw[cr_ (setRow_heap w g arr _ b.T (0,0) m2)];simp[Lib.strCells_length,hsz];omega,k4⟩⟩)
  rw[hbz]at k1;omega
 have hx:∃xs,VRr φ (C.S φ s'.m) w 1 b.rows xs∧(xs≠[]→∃g p,A=some ⟨g,p,none⟩∧∀j u,xs[j]? = some u→w.cell? ⟨g,p+j,none⟩=some u):=by
  rcases hmem with⟨m1,m2⟩|⟨g',arr,xs,m1,m2,m3,m4,hzz⟩|⟨_,_,_,_,_,_,k1,_⟩
  ·exact⟨[],by rw[m2];exact .nil,fun h=>absurd rfl h⟩
  ·rw[hbz]at m3
   refine⟨xs,m3,fun hne=>?_⟩
   rcases f4 with f4|⟨g,T,mm,k1,k2,k3,k4⟩
   ·exfalso
    have hl0:=m3.len
    have:b.rows.length=0:=by omega
    rw[this,Nat.zero_mul]at hl0
    exact hne (List.eq_nil_of_length_eq_zero hl0)
   have hgg:g=g':=by rw[k1]at m1;simpa using m1
   subst hgg
   refine⟨g,0,by rw[k2,Nat.zero_mul],fun j u hj=>?_⟩
   rw[cell_of_row w g _ arr _ _ m2,Nat.zero_add]
   rw[←m4,List.getElem?_take]at hj
   split at hj
   ·rw[Array.getElem?_toList]at hj;exact hj
   cases hj
  rw[hbz]at k1;omega
 obtain⟨xs,m3,hxs⟩:=hx
 have hxl:=m3.len
 have hra:(Builtin.append_ #[t,u] o.type #[.slice A b.rows.length c,.string ⟨r.toArray⟩]).run E.P w = .ok (.slice (some ⟨w.heap.size,0,none⟩) (b.rows.length+r.length) (grownCap w (b.rows.length+r.length) c b.T)) (w.drew.alloc (.cells (xs.toArray++(Lib.strCells ⟨r.toArray⟩).toArray++Builtin.zeroCells zv.cells (grownCap w (b.rows.length+r.length) c b.T - (b.rows.length+r.length))) b.T)):=by
  cases A with
  |none=>
   have hc0:c=0:=by
    rcases f4 with f4|⟨g,T,mm,k1,k2,_⟩
    ·exact f4
    cases k2
   have hn0:b.rows.length=0:=by omega
   have hxe:xs=[]:=List.eq_nil_of_length_eq_zero (by omega)
   have:=run_append_nil_string (P:=E.P) w t u o.type b.T i zv hu hty hi hiz ⟨r.toArray⟩ (by rw[hsz];exact hrl) (by rw[hsz];omega) (by rw[hsz,hib];rw[hn0,Nat.zero_add]at hby;omega)
   rw[hsz]at this
   rw[hn0,hc0,hxe,Nat.zero_add,this]
   simp[Lib.strCells]
  |some ad=>
   have hold:∀j v,xs[j]? = some v→w.cell? (ad.add j)=some v:=fun j v hj=>by
    have hne:xs≠[]:=fun e=>by subst e;simp at hj
    obtain⟨g,p,e,h⟩:=hxs hne
    cases e
    rw[Addr.add_spot]
    exact h j v hj
   have:=Lib.run_append_grow_string (P:=E.P) w t u o.type b.T i zv hu hty hi hiz ad b.rows.length c xs (by rw[his];exact hxl) hold ⟨r.toArray⟩ (by rw[hsz];omega) (by rw[hsz];omega) (by rw[hsz,hib];exact growslice_fits (by omega) hby)
   rw[hsz]at this
   exact this
 have hrun:=run0 _ _ (by rw[f1,h2];exact hra)
 obtain⟨r1,r2⟩:=hr.erase l
 obtain⟨t1,t2⟩:=r1.grew (l':=l') hl' (el:=b.T) (z:=1) (rows:=b.rows++byR r) (xs:=xs++Lib.strCells ⟨r.toArray⟩) (by decide) ((m3.append hnews).keep r2) (zv:=zv) hzn (cap:=grownCap w (b.rows.length+r.length) c b.T) (n:=b.rows.length+r.length) (by simp[hbl]) (grownCap_ge w _ _ _) (fe_ w _ _ _ (by unfold maxLen;omega)) (arr:=xs.toArray++(Lib.strCells ⟨r.toArray⟩).toArray++Builtin.zeroCells zv.cells (grownCap w (b.rows.length+r.length) c b.T - (b.rows.length+r.length))) (by simp)
 exact fin (φ':=fun x=>if x=l' then some (some w.heap.size)else φ x) hrun (by simpa using t1) (by simpa using t2)
end
end
section
open Go.RowKit
section
variable {E:Env} {C:Cx} {φ:Phi} {s:St} {o:Oper} {a:Act} {w w':World}
theorem ag5_ {S:Nat→Prop}:∀ {r:Str} {xs:List Value},VRr φ S w 1 (byR r) xs→xs=r.map fun b=>Value.int .u8 b.toNat
 |[],xs,h=>by simpa[byR,VRr]using h
 |c::r,xs,h=>by
  simp only[byR,List.map_cons,VRr,VRs,VR]at h
  obtain⟨ys,zs,rfl,_,⟨x,q,rfl,rfl,rfl⟩,_,h4⟩:=h
  rw[ag5_ (r:=r) h4];rfl
theorem RelAt.drop (h:RelAt E C φ s a w) {l:Nat} {b:Blk} {g:Nat} (hb:s.m l=some b) (hg:φ l=some (some g)) (hsame:∀k,k≠g→w'.heap[k]? = w.heap[k]?) (hhs:w'.heap.size=w.heap.size) (hsh:w'.shape? g=w.shape? g)
  (hos:w'.os=w.os∧w'.tape=w.tape∧w'.output=w.output):RelAt E C φ ⟨s.σ,upd s.m l none,s.u⟩ a w':=by
 have old:∀x b,upd s.m l none x=some b→x≠l∧s.m x=some b:=fun x b hx=>by
  by_cases e:x=l
  ·subst e;simp at hx
  exact⟨e,by rwa [bs_ _ e]at hx⟩
 have hset:∀k,C.S φ s.m k→k<w.heap.size→C.S φ (upd s.m l none) k∧w'.heap[k]? = w.heap[k]?:=fun k hk _=>
  ⟨⟨hk.1,fun x b hb=>hk.2 x b (old x b hb).2⟩,hsame k fun e=>hk.2 l b hb (by rw[e];exact hg)⟩
 have hfr:FrameW (fun k=>k=g) w w':=⟨hos.1,hos.2.1,hos.2.2,by omega,fun k _ hk=>hsame k hk,fun k x hx=>by
  by_cases e:k=g
  ·subst e;rw[hsh];exact hx
  rw[fx_ (hsame k e)];exact hx⟩
 exact h.step (fun _ _ h=>h) h.used hset hfr (fun k hk=>by subst hk;exact h.own l b k hb hg) (fun x b' hx=>.inl ⟨(old x b' hx).2,fun k hk=>hsame k fun e=>(old x b' hx).1 (h.inj x l b' b g (old x b' hx).2 hb (by rw[←e];exact hk) hg)⟩)
  (fun x x' b1 b2 k h1 h2=>h.inj x x' b1 b2 k (old x b1 h1).2 (old x' b2 h2).2) (fun x b1 k h1=>h.own x b1 k (old x b1 h1).2)
theorem atx_ {x y:Operand} {pt it el l:Nat} {r:Str} (hp:PC E o s) (ho:o.op = .call { callee:=.builtin .unsafeString,args:=#[x,y],argTypes:=#[pt,it] }) (hpt:E.P.underlying pt=some (.pointer el)) (hc:E.P.cellsOf el=1)
  (hx:s.pv E x=sdV l r.length) (hy:s.pv E y = .i .i64 r.length) (hb:s.m l=some ⟨el,1,byR r⟩) (hr63:r.length≤9223372036854775807):Op1 E o s { v:=.s r,wr:=[(l,none)],rd:=[l] }:=by
 have ox:x∈o.op.operands:=by simp[ho,Op.operands,Call.operands]
 have oy:y∈o.op.operands:=by simp[ho,Op.operands,Call.operands]
 refine Op1.of fun s' e1 e2 e3 C φ a w hr=>?_
 have h1:=hr.pv (x:=x) (by rw[e1 x ox];exact hp x ox)
 have h2:=hr.pv (x:=y) (by rw[e1 y oy];exact hp y oy)
 have e1x:s'.pv E x=s.pv E x:=by unfold St.pv;rw[e1 x ox]
 have e1y:s'.pv E y=s.pv E y:=by unfold St.pv;rw[e1 y oy]
 rw[e1x,hx]at h1;rw[e1y,hy]at h2
 have hb':s'.m l=some ⟨el,1,byR r⟩:=by rw[e2 l (by simp)];exact hb
 have run0:∀v W,(Builtin.unsafeString_ #[pt,it] o.type #[a.eval x,a.eval y]).run E.P w = .ok v W→(execOp a.eval o).run E.P w = .ok (.value v) W:=fun v W h=>by
  simp[execOp,ho,resolve,invoke,builtin,h]
 simp only[VR]at h2
 cases r with
 |nil=>
  simp only[List.length_nil,sdV,VR]at h1
  have hrun:=run0 _ _ (by rw[h1,h2];exact Lib.run_unsafeString_none (P:=E.P) w pt it o.type none)
  exact⟨_,_,φ,.inl hrun,by rw[Eff.use_nil];exact(hr.erase l).1,by simp only[VR];rfl⟩
 |cons c r=>
  simp only[List.length_cons,sdV,VR]at h1
  obtain⟨g,g1,g2⟩:=h1
  rw[dq_ (by omega),Nat.zero_mul]at g2
  obtain⟨arr,xs,k1,k2,k3,k4⟩:=(hr.mem l _ hb').arr (z:=1) rfl (by omega) g1
  have hxs:=ag5_ k2
  have hcell:∀j u,(c::r)[j]? = some u→w.cell? ((⟨g,0,none⟩:Addr).add j)=some (.int .u8 u.toNat):=fun j u hu=>by
   rw[Addr.add_spot,Nat.zero_add,cell_of_row w g _ arr _ _ k1,←Array.getElem?_toList]
   have hj:xs[j]? = some (.int .u8 u.toNat):=by rw[hxs,List.getElem?_map,hu];rfl
   rw[←k3,List.getElem?_take]at hj
   split at hj
   ·exact hj
   cases hj
  have hrun:=run0 _ _ (by rw[g2,h2];exact Lib.run_unsafeString_row (P:=E.P) w pt it o.type el hpt hc g arr.size (cr_ k1) (c::r) (by simp) (by simpa[byR]using k4) hr63 hcell)
  have hne:(c::r).length≠0:=by simp
  refine⟨_,_,φ,.inl hrun,?_,by simp only[VR]⟩
  rw[Eff.use_nil]
  refine hr.drop hb' g1 (fun k hk=>?_) ?_ ?_ ?_
  ·simp only[World.freeze,hne,if_false,Array.getElem?_modify]
   rw[if_neg (fun e=>hk e.symm)]
  ·simp only[World.freeze,hne,if_false,Array.size_modify]
  ·simp only[World.shape?,World.freeze,hne,if_false,Array.getElem?_modify,if_true,k1,Option.map_some]
  simp only[World.freeze,hne,if_false,and_self]
def asi_ (E:Env) (el l:Nat) (r:Str):CallC E where
 ef:=fun _ _=>{ v:=.s r,wr:=[(l,none)],rd:=[l] }
 ob:=fun o s=>∃x y pt it,pcB E o s=true∧o.op = .call { callee:=.builtin .unsafeString,args:=#[x,y],argTypes:=#[pt,it] }∧E.P.underlying pt=some (.pointer el)∧E.P.cellsOf el=1∧s.pv E x=sdV l r.length∧s.pv E y = .i .i64 r.length∧s.m l=some ⟨el,1,byR r⟩∧r.length≤9223372036854775807
 ok:=fun o s ⟨_,_,_,_,h1,h2,h3,h4,h5,h6,h7,h8⟩=>atx_ (a4_ h1) h2 h3 h4 h5 h6 h7 h8
theorem ax7_ {x y:Operand} {t u el yb l l' n:Nat} {r:Str} {b:Blk} (hp:PC E o s) (ho:o.op = .call { callee:=.builtin .append,args:=#[x,y],argTypes:=#[t,u] }) (ht:(ax_ E.P t).map (·.k)=some (.sl el 1 yb [.i .u8 0])) (hty:E.P.underlying u=some .string) (hyb:0<yb)
  (hx:s.pv E x=bB l n) (hy:s.pv E y = .s r) (hb:s.m l=some b) (hbz:b.z=1) (hbT:b.T=el) (hbn:n=b.rows.length) (hby:(n+r.length) * yb≤140737488355328) :
  Op1 E o s { v:=bB l' (n+r.length),wr:=[(l,none),(l',some ⟨el,1,b.rows++byR r⟩)],nw:=[l'],rd:=[l] }:=by
 cases n with
 |succ n=>
  have e:n+1+r.length=n+r.length+1:=by omega
  have:=ahp_ (l':=l') hp ho ht hty hyb hx hy hb hbz hbT hbn hby
  rw[e]at this ⊢
  exact this
 |zero=>
 have hb0:b.rows=[]:=List.eq_nil_of_length_eq_zero hbn.symm
 have ox:x∈o.op.operands:=by simp[ho,Op.operands,Call.operands]
 have oy:y∈o.op.operands:=by simp[ho,Op.operands,Call.operands]
 refine Op1.of fun s' e1 e2 e3 C φ a w hr=>?_
 have h1:=hr.pv (x:=x) (by rw[e1 x ox];exact hp x ox)
 have h2:=hr.pv (x:=y) (by rw[e1 y oy];exact hp y oy)
 have e1x:s'.pv E x=s.pv E x:=by unfold St.pv;rw[e1 x ox]
 have e1y:s'.pv E y=s.pv E y:=by unfold St.pv;rw[e1 y oy]
 rw[e1x,hx]at h1;rw[e1y,hy]at h2
 obtain⟨hu,hzz,hyy,hzero⟩:=db_ ht
 obtain⟨i,zv,hi,hiz,hzv,hzn⟩:=c9_ (φ:=φ) (S:=C.S φ s'.m) (w:=w) hzero.symm rfl (dc_ (by rfl))
 have his:i.size=1:=by rw[hzz];simp[Program.cellsOf,hi]
 have hib:i.bytes=yb:=by rw[hyy];simp[Program.bytesOf,hi]
 have run0:∀v W,(Builtin.append_ #[t,u] o.type #[a.eval x,a.eval y]).run E.P w = .ok v W→(execOp a.eval o).run E.P w = .ok (.value v) W:=fun v W h=>by
  simp[execOp,ho,resolve,invoke,builtin,h]
 have hb':s'.m l=some b:=by rw[e2 l (by simp)];exact hb
 have hl':s'.u l'=false:=e3 l' (by simp)
 simp only[bB,qe_,VR]at h1 h2
 have hsz:(⟨r.toArray⟩:ByteArray).size=r.length:=by simp[ByteArray.size]
 have hsm:r.length≤140737488355328:=by have:=Nat.le_mul_of_pos_right (0+r.length) hyb;omega
 subst hbT
 rw[hb0]
 by_cases hr0:r=[]
 ·subst hr0
  have hrun:=run0 _ _ (by rw[h1.1,h2];exact kl_ (w:=w) t u o.type b.T i hu hty hi his none 0 0 (Nat.le_refl _))
  obtain⟨r1,r2⟩:=hr.erase l
  have:=r1.empty (l:=l') hl' b.T 1
  exact⟨_,_,_,.inl hrun,by rw[f0_];exact this,by simp[bB,qe_,VR,Value.oneCell']⟩
 have hrl:0<r.length:=List.length_pos_iff.2 hr0
 have hbl:(byR r).length=r.length:=by simp[byR]
 have hra:=run_append_nil_string (P:=E.P) w t u o.type b.T i zv hu hty hi hiz ⟨r.toArray⟩ (by rw[hsz];exact hrl) (by rw[hsz];omega) (by rw[hsz,hib];rw[Nat.zero_add]at hby;omega)
 rw[hsz]at hra
 have hrun:=run0 _ _ (by rw[h1.1,h2];exact hra)
 obtain⟨r1,r2⟩:=hr.erase l
 obtain⟨t1,t2⟩:=r1.grew (l':=l') hl' (el:=b.T) (z:=1) (rows:=byR r) (xs:=Lib.strCells ⟨r.toArray⟩) (by decide) (by
  have:Lib.strCells ⟨r.toArray⟩=r.map fun b=>Value.int .u8 b.toNat:=by simp[Lib.strCells]
  rw[this];exact rn_ r) (zv:=zv) hzn (cap:=grownCap w r.length 0 b.T) (n:=r.length) (by simp[hbl]) (grownCap_ge w _ _ _) (fe_ w _ _ _ (by unfold maxLen;omega)) rfl
 obtain⟨k,hk⟩:∃k,r.length=k+1:=⟨r.length - 1,by omega⟩
 have e0:(Lib.strCells ⟨r.toArray⟩).toArray=Array.map (fun b=>Value.int IntKind.u8 b.toNat) r.toArray:=by simp[Lib.strCells]
 rw[e0]at t1 t2
 refine⟨_,_,_,.inl hrun,by rw[f0_];exact t1,?_⟩
 rw[hk]at t2 ⊢
 rw[show bB l' (0+(k+1)) = .ow l' 1 0 (k+1) by rw[Nat.zero_add];rfl]
 exact t2
def az0_ (E:Env) (el l l' n:Nat) (rows:List (List V)) (r:Str):CallC E where
 ef:=fun _ _=>{ v:=bB l' (n+r.length),wr:=[(l,none),(l',some ⟨el,1,rows++byR r⟩)],nw:=[l'],rd:=[l] }
 ob:=fun o s=>∃x y t u yb,pcB E o s=true∧o.op = .call { callee:=.builtin .append,args:=#[x,y],argTypes:=#[t,u] }∧(ax_ E.P t).map (·.k)=some (.sl el 1 yb [.i .u8 0])∧E.P.underlying u=some .string∧0<yb∧s.pv E x=bB l n∧s.pv E y = .s r∧s.m l=some ⟨el,1,rows⟩∧n=rows.length∧(n+r.length) * yb≤140737488355328
 ok:=fun o s ⟨_,_,_,_,_,h1,h2,h3,h4,h5,h6,h7,h8,h9,h10⟩=>ax7_ (a4_ h1) h2 h3 h4 h5 h6 h7 h8 rfl rfl h9 h10
theorem app_ {x y:Operand} {t el yb l l' n:Nat} {c:V} {tt:Bool} {b:Blk} (hp:PC E o s) (ho:o.op = .call { callee:=.builtin .append,args:=#[x,y],argTypes:=#[t,t] }) (ht:(ax_ E.P t).map (·.k)=some (.sl el 1 yb [.i .u8 0])) (hyb:0<yb)
  (hx:s.pv E x=bB l n) (hy:s.pv E y = .sl tt [[c]]) (hb:s.m l=some b) (hbz:b.z=1) (hbT:b.T=el) (hbn:n=b.rows.length) (hby:(n+1) * yb≤140737488355328) :
  Op1 E o s { v:=bB l' (n+1),wr:=[(l,none),(l',some ⟨el,1,b.rows++[[c]]⟩)],nw:=[l'],rd:=[l] }:=by
 cases n with
 |succ n=>
  have:=y6_ (l':=l') hp ho ht (by omega) hyb rfl (by rfl) (by rw[hx,hy];simp[bB,appC,ro_,hb,hbz,hbT,cc_];exact⟨hbn.symm,hby⟩)
  rw[hx,hy]at this
  simp only[bB,appE,ro_,hb,cc_,List.length_cons,List.length_nil,Nat.zero_add,hbT,hbz]at this
  exact this
 |zero=>
 have hb0:b.rows=[]:=List.eq_nil_of_length_eq_zero hbn.symm
 have ox:x∈o.op.operands:=by simp[ho,Op.operands,Call.operands]
 have oy:y∈o.op.operands:=by simp[ho,Op.operands,Call.operands]
 refine Op1.of fun s' e1 e2 e3 C φ a w hr=>?_
 have h1:=hr.pv (x:=x) (by rw[e1 x ox];exact hp x ox)
 have h2:=hr.pv (x:=y) (by rw[e1 y oy];exact hp y oy)
 have e1x:s'.pv E x=s.pv E x:=by unfold St.pv;rw[e1 x ox]
 have e1y:s'.pv E y=s.pv E y:=by unfold St.pv;rw[e1 y oy]
 rw[e1x,hx]at h1;rw[e1y,hy]at h2
 obtain⟨hu,hzz,hyy,hzero⟩:=db_ ht
 obtain⟨i,zv,hi,hiz,hzv,hzn⟩:=c9_ (φ:=φ) (S:=C.S φ s'.m) (w:=w) hzero.symm rfl (dc_ (by rfl))
 have his:i.size=1:=by rw[hzz];simp[Program.cellsOf,hi]
 have hib:i.bytes=yb:=by rw[hyy];simp[Program.bytesOf,hi]
 have run0:∀v W,(Builtin.append_ #[t,t] o.type #[a.eval x,a.eval y]).run E.P w = .ok v W→(execOp a.eval o).run E.P w = .ok (.value v) W:=fun v W h=>by
  simp[execOp,ho,resolve,invoke,builtin,h]
 have hb':s'.m l=some b:=by rw[e2 l (by simp)];exact hb
 have hl':s'.u l'=false:=e3 l' (by simp)
 simp only[bB,qe_,VR]at h1 h2
 subst hbT
 obtain⟨A,c2,z2,xs,f1,f2,f3,f4,f5,f6⟩:=h2
 have hz2:z2=1:=(f6.rowlen [c] (by simp)).symm
 subst hz2
 have hxl:=f6.len
 simp only[List.length_cons,List.length_nil,Nat.zero_add,Nat.mul_one]at hxl f1 f2
 obtain⟨g,p,rfl,_,_,hcell⟩:=f5 (by intro e;rw[e]at hxl;cases hxl)
 have hra:=i5_ (P:=E.P) (w:=w) t o.type b.T i zv hu hi hiz none 0 0 [] (by simp) (by omega) (fun h=>absurd rfl h) (fun _=>rfl) ⟨g,p,none⟩ 1 c2 xs (by rw[his];exact hxl) (fun j v hj=>by rw[Addr.add_spot];exact hcell j v hj) (by omega) (Nat.le_refl _) (by omega) (by rw[hib];exact hby)
 have hrun:=run0 _ _ (by rw[h1.1,f1];exact hra)
 obtain⟨r1,r2⟩:=hr.erase l
 obtain⟨t1,t2⟩:=r1.grew (l':=l') hl' (el:=b.T) (z:=1) (rows:=[[c]]) (xs:=xs) (by decide) (f6.keep r2) (zv:=zv) hzn (cap:=grownCap w (0+1) 0 b.T) (n:=0+1) rfl (grownCap_ge w _ _ _) (fe_ w _ _ _ (by unfold maxLen;omega)) rfl
 have e0:([]:List Value).toArray++xs.toArray=xs.toArray:=by simp
 rw[e0]at hrun
 rw[hb0]
 exact⟨_,_,_,.inl hrun,by rw[f0_];exact t1,t2⟩
def asx_ (E:Env) (el l l' n:Nat) (rows:List (List V)) (c:V):CallC E where
 ef:=fun _ _=>{ v:=bB l' (n+1),wr:=[(l,none),(l',some ⟨el,1,rows++[[c]]⟩)],nw:=[l'],rd:=[l] }
 ob:=fun o s=>∃x y t yb tt,pcB E o s=true∧o.op = .call { callee:=.builtin .append,args:=#[x,y],argTypes:=#[t,t] }∧(ax_ E.P t).map (·.k)=some (.sl el 1 yb [.i .u8 0])∧0<yb∧s.pv E x=bB l n∧s.pv E y = .sl tt [[c]]∧s.m l=some ⟨el,1,rows⟩∧n=rows.length∧(n+1) * yb≤140737488355328
 ok:=fun o s ⟨_,_,_,_,_,h1,h2,h3,h4,h5,h6,h7,h8,h9⟩=>app_ (a4_ h1) h2 h3 h4 h5 h6 h7 rfl rfl h8 h9
end
end
section
open Go.RowKit
theorem ACall.frzL {E:Env} {f:FuncId} {vs rs rs':List V} {L0 Lr:List Blk} {b:Blk} (A:ACall E f vs L0 rs (Lr++[b])) (h0:L0.length≤Lr.length) (h:er_ Lr.length b.z b.rows rs=rs'):ACall E f vs L0 rs' Lr:=by
 refine⟨A.1,fun φ S w args hp=>(A.2 φ S w args hp).mono fun e w' ⟨xs,φr,he,P⟩=>⟨xs,φr,he,?_⟩⟩
 have hlast:(Lr++[b])[Lr.length]? = some b:=by simp
 have hin:∀i c,Lr[i]? = some c→(Lr++[b])[i]? = some c:=fun i c hc=>by
  rw[List.getElem?_append_left (List.getElem?_eq_some_iff.1 hc).1];exact hc
 have hb:MR φr (SOf φr S w (Lr++[b])) w' Lr.length b:=P.mem _ b hlast
 have hsub:∀g,SOf φr S w (Lr++[b]) g→SOf φr S w Lr g:=fun g hg=>⟨hg.1,fun i c hc=>hg.2 i c (hin i c hc)⟩
 have hk:KeepsW φr φr (SOf φr S w (Lr++[b])) (SOf φr S w Lr) w' w':=⟨fun _ _ h=>h,fun g hg _=>⟨hsub g hg,rfl⟩,Nat.le_refl _,fun _ _ h=>h⟩
 have F:FrzOk φr (SOf φr S w (Lr++[b])) (SOf φr S w Lr) w' Lr.length b.z b.rows:=by
  refine⟨hsub,⟨b.T,hb.keep hk fun _ _=>rfl⟩,fun g hg=>⟨⟨.inr (P.new _ g h0 hg),fun i c hc hi=>?_⟩,hb.lt hg⟩⟩
  have hi2:=(List.getElem?_eq_some_iff.1 hc).1
  have:=P.inj i Lr.length g (by simp;omega) (by simp) hi hg
  omega
 refine⟨P.same,?_,fun i c hc=>(P.mem i c (hin i c hc)).keep hk fun _ _=>rfl,P.new,fun i j g hi hj h1 h2=>P.inj i j g (by simp;omega) (by simp;omega) h1 h2,P.frame⟩
 rw[←h];exact VRs.frz F P.res
def asO (E:Env) (e:Eff):CallC E where
 ef:=fun _ _=>e
 ob:=fun o s=>obO E o s∧evO E o s=e
 ok:=fun o s ⟨h1,h2⟩=>h2 ▸ ava_ h1
end
section
open Go.RowKit
section
variable {E:Env} {s:St} {o:Oper}
theorem api_ {x:Operand} {t el z yb l p n:Nat} {zc:List V} {b:Blk} (hp:PC E o s) (ho:o.op = .call { callee:=.builtin .clear,args:=#[x],argTypes:=#[t] }) (ht:(ax_ E.P t).map (·.k)=some (.sl el z yb zc)) (hz:0<z) (hzl:zc.length=z) (hz1:zc.all V.one=true)
  (hx:s.pv E x = .ow l z p n) (hb:s.m l=some b) (hbz:b.z=z) (hn:p+n≤b.rows.length) :
  Op1 E o s { v:=.no,wr:=[(l,some { b with rows:=b.rows.take p++List.replicate n zc++b.rows.drop (p+n) })],rd:=[l] }:=by
 have ox:x∈o.op.operands:=by simp[ho,Op.operands,Call.operands]
 refine Op1.of fun s' e1 e2 e3 C φ a w hr=>?_
 have h1:=hr.pv (x:=x) (by rw[e1 x ox];exact hp x ox)
 have e1x:s'.pv E x=s.pv E x:=by unfold St.pv;rw[e1 x ox]
 rw[e1x,hx]at h1
 have hb':s'.m l=some b:=by rw[e2 l (by simp)];exact hb
 obtain⟨hu,hzz,hyy,hzero⟩:=db_ ht
 obtain⟨i,zv,hi,hiz,hzv,hzn⟩:=c9_ (φ:=φ) (S:=C.S φ s'.m) (w:=w) hzero.symm hzl (dc_ hz1)
 have run0:∀v W,(Builtin.clear_ #[t] o.type #[a.eval x]).run E.P w = .ok v W→(execOp a.eval o).run E.P w = .ok (.value v) W:=fun v W h=>by
  simp[execOp,ho,resolve,invoke,builtin,h]
 simp only[VR]at h1
 obtain⟨A,c,f1,f2,f3,f4⟩:=h1
 subst hbz
 have hus:Eff.use ⟨.no,[(l,some { b with rows:=b.rows.take p++List.replicate n zc++b.rows.drop (p+n) })],[],[l]⟩ s'.u=s'.u:=Eff.use_nil _ _ _ _
 have h0:n=0→∃x w' φ',((execOp a.eval o).run E.P w = .ok (.value x) w'∨((execOp a.eval o).run E.P w = .ok .skip w'∧x=undef))∧RelAt E C φ' ⟨s'.σ,Eff.mem ⟨.no,[(l,some { b with rows:=b.rows.take p++List.replicate n zc++b.rows.drop (p+n) })],[],[l]⟩ s'.m,Eff.use ⟨.no,[(l,some { b with rows:=b.rows.take p++List.replicate n zc++b.rows.drop (p+n) })],[],[l]⟩ s'.u⟩ a w'∧VR φ' (C.S φ' (Eff.mem ⟨.no,[(l,some { b with rows:=b.rows.take p++List.replicate n zc++b.rows.drop (p+n) })],[],[l]⟩ s'.m)) w' .no x:=fun hn0=>by
  subst hn0
  have hrun:=run0 (.tuple #[]) w (by rw[f1];cases A<;>simp[Builtin.clear_,run_underlying hu])
  refine⟨_,w,φ,.inl hrun,?_,by simp only[VR]⟩
  rw[hus]
  have e:Eff.mem ⟨.no,[(l,some { b with rows:=b.rows.take p++List.replicate 0 zc++b.rows.drop (p+0) })],[],[l]⟩ s'.m=s'.m:=by
   funext y
   simp only[Eff.mem,List.foldl_cons,List.foldl_nil,List.replicate_zero,List.append_nil,Nat.add_zero,List.take_append_drop]
   by_cases hy:y=l
   ·subst hy;rw[dd_,hb']
   rw[bs_ _ hy]
  rw[e];exact hr
 by_cases hn0:n=0
 ·exact h0 hn0
 rcases f4 with f4|⟨g,T,mm,k1,rfl,k3,k4⟩
 ·exact h0 (by omega)
 obtain⟨k,hk⟩:∃k,n=k+1:=⟨n - 1,by omega⟩
 rcases hr.mem l b hb' with⟨m1,_⟩|⟨g',arr,xs,m1,m2,m3,m4,hzz2⟩|⟨_,_,_,_,_,_,q1,_⟩
 ·rw[k1]at m1;cases m1
 ·rw[k1]at m1;cases m1
  have hxl:xs.length≤arr.size:=by have:=congrArg List.length m4;rw[List.length_take]at this;have h2:arr.toList.length=arr.size:=(by simp);omega
  have hx2:=m3.len
  have hle:p * b.z+n * b.z≤xs.length:=by rw[hx2,←Nat.add_mul];exact Nat.mul_le_mul_right _ hn
  have hzs:(Builtin.zeroCells zv.cells n).toList=(List.replicate n zv.cells.toList).flatten:=by
   rw[←go_ zv.cells n (by omega)];rfl
  have hzl2:(Builtin.zeroCells zv.cells n).toList.length=n * b.z:=by simp[size_zeroCells,hzn]
  have hones:=hzv.ones hz1
  have hz1':∀u∈(Builtin.zeroCells zv.cells n).toList,u.oneCell'=true:=fun u hu2=>by
   rw[hzs]at hu2
   obtain⟨q,hq,hu3⟩:=List.mem_flatten.1 hu2
   rw[(List.mem_replicate.1 hq).2]at hu3
   exact hones u hu3
  have hst:=run_storeCells_at E.P g (p * b.z) b.T (Builtin.zeroCells zv.cells n).toList 0 arr w m2 (by rw[hzl2];omega) hz1'
  simp only[Nat.add_zero]at hst
  have hrow:VRr φ (C.S φ s'.m) w b.z (b.rows.take p++List.replicate n zc++b.rows.drop (p+n)) (xs.take (p * b.z)++(Builtin.zeroCells zv.cells n).toList++xs.drop ((p+n) * b.z)):=
   ((m3.take p).append (by rw[hzs];exact VRr.replicate hzl hzv hones n)).append (m3.drop (p+n))
  have hw:=hr.write (w':=w.setRow g (arr.toList.take (p * b.z)++(Builtin.zeroCells zv.cells n).toList++arr.toList.drop (p * b.z+(Builtin.zeroCells zv.cells n).toList.length)).toArray) hb' k1
   (rows:=b.rows.take p++List.replicate n zc++b.rows.drop (p+n)) (xs:=xs.take (p * b.z)++(Builtin.zeroCells zv.cells n).toList++xs.drop ((p+n) * b.z))
   (arr':=(arr.toList.take (p * b.z)++(Builtin.zeroCells zv.cells n).toList++arr.toList.drop (p * b.z+(Builtin.zeroCells zv.cells n).toList.length)).toArray) m2 rfl (by simp only[List.size_toArray,List.length_append,List.length_take,List.length_drop,hzl2,Array.length_toList];omega)
   (setRow_heap w g arr _ b.T (0,0) m2) (fun k hk=>setRow_other w g k _ hk) (by simp[World.setRow]) ⟨rfl,rfl,rfl⟩ hrow (by
    have hsplit:arr.toList=xs++arr.toList.drop xs.length:=by
     have hh:=(List.take_append_drop xs.length arr.toList).symm;rw[m4]at hh;exact hh
    rw[hzl2,←Nat.add_mul]
    rw[←Nat.add_mul]at hle
    have t1:arr.toList.take (p * b.z)=xs.take (p * b.z):=by
     rw[hsplit,List.take_append_of_le_length (by have:=Nat.mul_le_mul_right b.z (Nat.le_add_right p n);omega)]
    have t2:arr.toList.drop ((p+n) * b.z)=xs.drop ((p+n) * b.z)++arr.toList.drop xs.length:=by
     conv=>lhs;rw[hsplit]
     rw[List.drop_append_of_le_length hle]
    rw[t1,t2]
    rw[←List.append_assoc]
    exact List.take_left)
  have hrun:=run0 (.tuple #[]) _ (by
   rw[f1,hk]
   rw[hk]at hst
   simp[Builtin.clear_,run_underlying hu,zeroValue,typeInfo,hi,hiz]
   rw[hst];rfl)
  refine⟨_,_,φ,.inl (hk ▸ hrun),?_,by simp only[VR]⟩
  rw[hus]
  exact hk ▸ hw
 omega
def at1_ (E:Env) (T l z p n:Nat) (zc:List V) (rows:List (List V)):CallC E where
 ef:=fun _ _=>{ v:=.no,wr:=[(l,some ⟨T,z,rows.take p++List.replicate n zc++rows.drop (p+n)⟩)],rd:=[l] }
 ob:=fun o s=>∃x t el yb,pcB E o s=true∧o.op = .call { callee:=.builtin .clear,args:=#[x],argTypes:=#[t] }∧(ax_ E.P t).map (·.k)=some (.sl el z yb zc)∧0<z∧zc.length=z∧zc.all V.one=true∧s.pv E x = .ow l z p n∧s.m l=some ⟨T,z,rows⟩∧p+n≤rows.length
 ok:=fun o s ⟨_,_,_,_,h1,h2,h3,h4,h5,h6,h7,h8,h9⟩=>api_ (a4_ h1) h2 h3 h4 h5 h6 h7 h8 rfl h9
end
end
section
section
variable {E:Env}
theorem zl_:∀ {l:List (Nat × Option Blk)} {m:Mem},(∀p∈l,m p.1=p.2)→l.foldl (fun m p=>upd m p.1 p.2) m=m
 |[],_,_=>rfl
 |p::l,m,h=>by
  have e:upd m p.1 p.2=m:=by
   funext x
   unfold upd
   split
   ·rename_i hx;rw[hx];exact(h p (List.mem_cons_self ..)).symm
   rfl
  rw[List.foldl_cons,e]
  exact zl_ fun q hq=>h q (List.mem_cons_of_mem _ hq)
theorem zv_ {m:Mem} {η0:List Nat}:∀ {η:List Nat} {L0:List Blk},aw_ m η0 η L0→∀p∈η.zip (L0.map fun b=>some (rnB η0 b)),m p.1=p.2
 |[],[],_,p,hp=>by cases hp
 |n::ns,b::bs,h,p,hp=>by
  simp only[aw_]at h
  rw[List.map_cons,List.zip_cons_cons,List.mem_cons]at hp
  rcases hp with rfl|hp
  ·exact h.1
  exact zv_ h.2 p hp
 |[],_::_,h,_,_|_::_,[],h,_,_=>by simp[aw_]at h
def a0l_ {f:FuncId} {vs rs:List V} {L0:List Blk} (η:List Nat) (A:ACall E f vs L0 rs L0):CallC E where
 ef:=fun _ _=>{ v:=if_ (rns η rs),rd:=η }
 ob:=fun o s=>pcB E o s=true∧oy_ E f (rns η vs) o s∧aw_ s.m η η L0∧η.length=L0.length∧η.Nodup∧cls η.length vs=true∧a5_ η.length L0=true∧cls η.length rs=true
 ok:=fun o s ⟨h1,h2,h3,h4,h5,h6,h7,h8⟩=>fun s' k1 k2 k3=>by
  have e0:η++[]=η:=List.append_nil η
  have:=(at_ η [] A).ok o s ⟨h1,h2,h3,by rw[e0];exact h4,by rw[e0];exact h5,h6,h7,by rw[e0];exact h8,by rw[e0];exact h7⟩ s' k1 k2 (fun l hl=>by simp[at_,ez_]at hl)
  have e:s'.eff o.dst ((at_ η [] A).ef o s)=s'.eff o.dst { v:=if_ (rns η rs),rd:=η }:=by
   have hm:(ez_ η η rs L0).mem s'.m=s'.m:=zl_ fun p hp=>by
    have hn:p.1∈η:=(List.of_mem_zip hp).1
    rw[show s'.m p.1=s.m p.1 from k2 p.1 hn];exact zv_ h3 p hp
   show s'.eff o.dst (ez_ η (η++[]) rs L0)=_
   rw[e0]
   have hu:(ez_ η η rs L0).use s'.u=s'.u:=by funext x;simp[Eff.use,ez_]
   have hu2:(Eff.use { v:=if_ (rns η rs),rd:=η } s'.u)=s'.u:=by funext x;simp[Eff.use]
   unfold St.eff
   rw[hm,hu,hu2]
   rfl
  rw[e]at this
  exact this
end
end
end Go.Proofs.YthjccajoadjicaaGreatDoor
