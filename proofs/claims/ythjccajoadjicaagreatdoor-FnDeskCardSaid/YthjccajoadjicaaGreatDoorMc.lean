/- Tree logic, part 16: functions: what is walked of a body is what the function answers. Conditions: none. -/
import Derived.Test.YthjccajoadjicaaGreatDoorMb
import Derived.Laws.BytesArg
import Derived.Lib.SliceRun
import Derived.WideLaws
import Derived.MapKept
import Derived.Laws.StructEq
import Derived.Lib.AppendZerosOnto
set_option linter.unusedVariables false
set_option linter.unusedSimpArgs false
set_option maxRecDepth 100000
set_option maxHeartbeats 8000000
namespace Go.Proofs.YthjccajoadjicaaGreatDoor
section
open Go.RowKit
def ba_ (P:Program) (s:St):ResultVar→V
 |.tmp t=>peel (s.σ.getD t .no)
 |.cell t ty=>match ax_ P ty with|some ti=>ldV ti.k.agg ti.size s.m (peel (s.σ.getD t .no))|none=>.no
def bn_ (P:Program) (s:St):ResultVar→Prop
 |.tmp t=>dg_ (s.σ.getD t .no)=true
 |.cell t ty=>dg_ (s.σ.getD t .no)=true∧match ax_ P ty with|some ti=>(ti.k.agg=false→ti.size=1)∧ldC ti.size s.m (peel (s.σ.getD t .no))|none=>False
def a1_ (P:Program) (s:St):List ResultVar→Prop
 |[]=>True
 |r::rs=>bn_ P s r∧a1_ P s rs
section
variable {E:Env} {C:Cx} {φ:Phi} {s s':St} {a:Act} {w w':World}
theorem ar6_ {S:Nat→Prop} {m:Mem} {t:TypeId} {ti:TI} (ht:ax_ E.P t=some ti) (hn:ti.k.agg=false→ti.size=1) {v:V} {x:Value} (hv:VR φ S w v x) (hm:∀l b,m l=some b→MR φ S w l b) (h:ldC ti.size m v) :
  ∃A y,x = .pointer (some A)∧(loadVar t A).run E.P w = .ok y w∧VR φ S w (ldV ti.k.agg ti.size m v) y:=by
 cases v<;>simp only[ldC]at h<;>simp only[VR]at hv
 case pt l z r c=>
  cases hb:m l with
  |none=>simp[hb]at h
  |some b=>
   simp only[hb]at h
   obtain⟨rfl,h3,h4,hz⟩:=h
   obtain⟨g,g1,g2⟩:=hv
   rw[dq_ hz]at g2
   rcases hm l b hb with⟨k1,_⟩|⟨g',arr,xs,k1,k2,k3,k4,hzz⟩|⟨_,_,_,_,_,_,k1,_⟩
   ·rw[g1]at k1;cases k1
   ·rw[g1]at k1;cases k1
    obtain⟨q1,q2⟩:=k3.getRow h3
    obtain⟨y,e1,e2⟩:=ex_ (g:=g) (p:=r * b.z+c) ht hn (by rw[List.length_drop,q1];omega) (q2.drop c) (fun j u hu=>by
     rw[cell_of_row w g _ arr _ _ k2]
     rw[List.getElem?_drop,List.getElem?_take]at hu
     split at hu
     ·rw[List.getElem?_drop,←k4,List.getElem?_take]at hu
      split at hu
      ·rw[Array.getElem?_toList]at hu;rw[←hu,Nat.add_assoc]
      cases hu
     cases hu)
    refine⟨_,y,g2,e1,?_⟩
    simp only[ldV,hb];exact e2
   omega
 case rp cs=>
  obtain⟨g,p,xs,g1,g2,g3,g4,g5⟩:=hv
  obtain⟨y,e1,e2⟩:=ex_ (g:=g) (p:=p) ht hn h g5 g4
  exact⟨_,y,g1,e1,by simp only[ldV];exact e2⟩
def resS (tmps:Array Value):ResultVar→Sem Value
 |.tmp t=>pure (tmps.getD t undef)
 |.cell ad t=>do loadVar t (←asAddr (tmps.getD ad undef))
theorem vo_ (fn:Func) (tmps:Array Value):results fn tmps=(do let vs ←fn.results.mapM (resS tmps);pure (if h:vs.size=1 then vs[0]else .tuple vs)):=by
 unfold results
 congr 1
theorem mi_ (hr:RelAt E C φ s a w):∀(l:List ResultVar),a1_ E.P s l→∃xs,(l.mapM (resS a.tmps)).run E.P w = .ok xs w∧VRs φ (C.S φ s.m) w (l.map (ba_ E.P s)) xs
 |[],_=>⟨[],rfl,.nil⟩
 |r::rs,h=>by
  simp only[a1_]at h
  obtain⟨xs,h1,h2⟩:=mi_ hr rs h.2
  have key:∃x,(resS a.tmps r).run E.P w = .ok x w∧VR φ (C.S φ s.m) w (ba_ E.P s r) x:=by
   cases r with
   |tmp t=>
    simp only[bn_]at h
    exact⟨_,rfl,(hr.slot t).peel h.1⟩
   |cell t ty=>
    simp only[bn_]at h
    obtain⟨⟨h3,h4⟩,_⟩:=h
    cases hti:ax_ E.P ty with
    |none=>simp[hti]at h4
    |some ti=>
     simp only[hti]at h4
     obtain⟨A,y,e1,e2,e3⟩:=ar6_ (E:=E) hti h4.1 ((hr.slot t).peel h3) (fun l b hb=>hr.mem l b hb) h4.2
     refine⟨y,?_,by simp only[ba_,hti];exact e3⟩
     simp only[resS,Sem.run_bind,e1,asAddr,Sem.run_pure,Result.andThen_ok,e2]
  obtain⟨x,k1,k2⟩:=key
  refine⟨x::xs,?_,.cons k2 h2⟩
  rw[List.mapM_cons]
  simp only[Sem.run_bind,k1,Result.andThen_ok,h1,Sem.run_pure]
theorem aei_ (xs:List Value):(if h:xs.toArray.size=1 then xs.toArray[0]else .tuple xs.toArray)=ga_ xs:=by
 match xs with
 |[]=>simp[ga_]
 |[x]=>simp[ga_]
 |x::y::r=>simp[ga_]
structure Out (E:Env) (fn:Func) (k:Nat) (rs:List V) (Lr:List Blk) (η:List Nat) (s:St):Prop where
 can:a1_ E.P s fn.results.toList
 res:les (fn.results.toList.map (ba_ E.P s)) (rns η rs)
 len:η.length=Lr.length
 le:k≤Lr.length
 pre:η.take k=List.range k
 nd:η.Nodup
 cl:cls Lr.length rs=true
 clr:∀b∈Lr,clr Lr.length b.rows=true
 mem:∀i b,Lr[i]? = some b→s.m (η.getD i 0)=some (rnB η b)
def ma_ (fn:Func) (vs:List V) (L0:List Blk):St:=⟨vs++List.replicate (fn.ntmps - vs.length) .no,lq_ L0,tc_⟩
theorem md_ {f:FuncId} {fn:Func} {c:Code} {vs rs:List V} {L0 Lr:List Blk} (hf:E.P.funcs[f]? = some fn) (hb:fn.body=some c) (hname:(fn.name== "runtime.NumGoroutine")=false) (hk:L0.length≤10)
  (h:∀C,AWp E C c (fun e s=>(e = .normal∨e = .ret)∧∃η,Out E fn L0.length rs Lr η s) (ma_ fn vs L0)):ACall E f vs L0 rs Lr:=by
 refine⟨fun args w=>?_,fun φ S w args hp=>?_⟩
 ·simp[callFunc,hf,hb]
  simpa using hname
 let C:Cx:=⟨w,φ,fun g=>S g∨rs_ φ L0 g,rs_ φ L0,fun l hl=>by have:=hp.low l hl;simp only[tc_,Bool.or_eq_true,decide_eq_true_eq];omega,fun g hg=>.inr hg⟩
 have hS:C.S φ (lq_ L0)=fun g=>(S g∨w.heap.size≤g)∧wi_ φ (lq_ L0) g:=by
  funext g
  simp only[Cx.S,C,eq_iff_iff]
  refine⟨fun⟨h1,h2⟩=>⟨?_,h2⟩,fun⟨h1,h2⟩=>⟨?_,h2⟩⟩
  ·rcases h1 with(h1|⟨i,hi,h1⟩)|h1
   ·exact .inl h1
   ·exact absurd h1 (h2 i L0[i] (List.getElem?_eq_getElem hi))
   exact .inr h1
  rcases h1 with h1|h1
  ·exact .inl (.inl h1)
  exact .inr h1
 have hkeep:KeepsW φ φ S (C.S φ (lq_ L0)) w w:=⟨fun _ _ h=>h,fun g hg _=>⟨by rw[hS];exact⟨.inl hg,hp.free g hg⟩,rfl⟩,Nat.le_refl _,fun _ _ h=>h⟩
 have hlen:args.size=vs.length:=by rw[←hp.args.len];simp
 have nos:∀n,VRs φ (C.S φ (lq_ L0)) w (List.replicate n V.no) (List.replicate n undef):=fun n=>by
  induction n with
  |zero=>exact .nil
  |succ n ih=>exact .cons (by simp only[VR]) ih
 have hr:RelAt E C φ (ma_ fn vs L0) { tmps:=args++Array.replicate (fn.ntmps - args.size) undef,defers:=[] } w:=by
  refine⟨rfl,?_,fun l b hb=>(hp.mem l b hb).keep hkeep fun _ _=>rfl,fun l l' b b' g h1 h2 h3 h4=>?_,fun l b g h1 h3=>.inl ⟨l,(List.getElem?_eq_some_iff.1 h1).1,h3⟩,fun l hl=>?_,fun _ _ h=>h,FrameW.refl _ _,fun g cs hg=>(hp.glob g cs hg).keep (φ':=fun _=>none) ⟨fun _ _ h=>h,hkeep.set,Nat.le_refl _,fun _ _ h=>h⟩,?_⟩
  ·simp only[ma_,Array.toList_append,Array.toList_replicate,hlen]
   exact(hp.args.keep hkeep).append (nos _)
  ·exact hp.inj l l' g (List.getElem?_eq_some_iff.1 h1).1 (List.getElem?_eq_some_iff.1 h2).1 h3 h4
  ·have:=hp.low l hl
   simp only[ma_,tc_,Bool.or_eq_true,decide_eq_true_eq];omega
  obtain⟨B,b1,b2,b3⟩:=hp.lad
  exact⟨B,b1,b2,fun g ⟨i,_,hi⟩=>b3 i g hi⟩
 refine calls_of_wp hf hb (wp_mono (h C φ _ w hr) fun e a' w' ⟨φ',s',⟨he,η,ho⟩,r⟩=>?_)
 obtain⟨xs,x1,x2⟩:=mi_ r fn.results.toList ho.can
 have hres:(results fn a'.tmps).run E.P w' = .ok (ga_ xs) w':=by
  rw[vo_,Array.mapM_eq_mapM_toList]
  simp only[Sem.run_bind,Sem.run_map,x1,Result.andThen_ok,Sem.run_pure]
  rw[aei_]
 have hlow:∀i,i<L0.length→φ' i=φ i:=fun i hi=>by
  rcases hp.mem i L0[i] (List.getElem?_eq_getElem hi)with⟨h1,_⟩|⟨g,_,_,h1,_⟩|⟨g,_,_,_,h1,_⟩<;>rw[h1]<;>exact r.phi0 i _ h1
 have hηi:∀i,i<L0.length→η.getD i 0=i:=fun i hi=>by
  have h2:(η.take L0.length)[i]? = some i:=by rw[ho.pre,List.getElem?_range hi]
  rw[List.getElem?_take_of_lt hi]at h2
  rw[List.getD_eq_getElem?_getD,h2];rfl
 have hφ:∀i,i<η.length→cz_ η φ' i=φ' (η.getD i 0):=fun i hi=>b2_ hi
 have hle:=ho.le
 have hlenη:=ho.len
 have hSO:∀g,C.S φ' s'.m g→SOf (cz_ η φ') S w Lr g:=fun g ⟨h1,h2⟩=>by
  refine⟨?_,fun i b hb h3=>?_⟩
  ·rcases h1 with(h1|⟨i,hi,h1⟩)|h1
   ·exact .inl h1
   ·exfalso
    have hLi:i<Lr.length:=by omega
    refine h2 _ _ (ho.mem i Lr[i] (List.getElem?_eq_getElem hLi)) ?_
    rw[hηi i hi,hlow i hi];exact h1
   exact .inr h1
  have hi:i<η.length:=by rw[hlenη];exact(List.getElem?_eq_some_iff.1 hb).1
  rw[hφ i hi]at h3
  exact h2 _ _ (ho.mem i b hb) h3
 have hkS:KeepsW (cz_ η φ') (cz_ η φ') (C.S φ' s'.m) (SOf (cz_ η φ') S w Lr) w' w':=⟨fun _ _ h=>h,fun g hg _=>⟨hSO g hg,rfl⟩,Nat.le_refl _,fun _ _ h=>h⟩
 have hpost:Post φ S w L0 rs Lr (cz_ η φ') xs w':=by
  refine⟨fun i hi=>?_,?_,fun i b hb=>?_,fun i g hi h3=>?_,fun i j g hi hj h3 h4=>?_,r.frame⟩
  ·rw[hφ i (by omega),hηi i hi,hlow i hi]
  ·have x2:=x2.le ho.res
   exact((VRs.rn hφ (by rw[hlenη];exact ho.cl)).2 x2).keep hkS
  ·have hi:i<η.length:=by rw[hlenη];exact(List.getElem?_eq_some_iff.1 hb).1
   exact((MR.rn hφ hi (by rw[hlenη];exact ho.clr b (List.mem_of_getElem? hb))).2 (r.mem _ _ (ho.mem i b hb))).keep hkS fun _ _=>rfl
  ·rcases Nat.lt_or_ge i η.length with hlt|hge
   ·rw[hφ i hlt]at h3
    have hbi:=ho.mem i Lr[i] (List.getElem?_eq_getElem (by omega))
    rcases r.own _ _ g hbi h3 with⟨j,hj,h5⟩|h5
    ·exfalso
     have hbj:=ho.mem j Lr[j] (List.getElem?_eq_getElem (by omega))
     have:=r.inj _ _ _ _ g hbi hbj h3 (by rw[hηi j hj,hlow j hj];exact h5)
     rw[List.getD_eq_getElem?_getD,List.getD_eq_getElem?_getD,List.getElem?_eq_getElem hlt,List.getElem?_eq_getElem (show j<η.length by omega)]at this
     have:=(List.getElem_inj ho.nd).1 this
     omega
    exact h5
   simp[cz_,List.getElem?_eq_none hge]at h3
  have hi':i<η.length:=by omega
  have hj':j<η.length:=by omega
  rw[hφ i hi']at h3;rw[hφ j hj']at h4
  have:=r.inj _ _ _ _ g (ho.mem i Lr[i] (List.getElem?_eq_getElem hi)) (ho.mem j Lr[j] (List.getElem?_eq_getElem hj)) h3 h4
  rw[List.getD_eq_getElem?_getD,List.getD_eq_getElem?_getD,List.getElem?_eq_getElem hi',List.getElem?_eq_getElem hj']at this
  exact(List.getElem_inj ho.nd).1 this
 have hd:a'.defers=[]:=r.defers
 rcases he with rfl|rfl
 ·exact⟨hd,ga_ xs,hres,xs,_,rfl,hpost⟩
 exact⟨hd,ga_ xs,hres,xs,_,rfl,hpost⟩
theorem xn_ {f:FuncId} {fn:Func} {c:Code} {vs rs:List V} {L0 Lr:List Blk} (η:List Nat) (hf:E.P.funcs[f]? = some fn) (hb:fn.body=some c) (hname:(fn.name== "runtime.NumGoroutine")=false) (hk:L0.length≤10)
  (h:∀C,AWp E C c (fun e s=>(e = .normal∨e = .ret)∧Out E fn L0.length rs Lr η s) (ma_ fn vs L0)):ACall E f vs L0 rs Lr:=
 md_ hf hb hname hk fun C=>(h C).mono fun e s ⟨h1,h2⟩=>⟨h1,η,h2⟩
end
end
section
open Go.RowKit
section
variable {E:Env} {C:Cx} {φ:Phi} {s s':St} {a:Act} {w w':World} {o:Oper} {e:Eff}
def pcB (E:Env) (o:Oper) (s:St):Bool:=o.op.operands.toList.all fun x=>dg_ (s.ev E x)
theorem a4_ (h:pcB E o s=true):PC E o s:=fun x hx=>List.all_eq_true.1 h x (Array.mem_toList_iff.2 hx)
def nm (o:Oper):Nat:=10+o.dst.getD 0
def a0h_ (c x y:V):V:=match c,x,y with|.b c,.b p,.b q=>.b (bif c then p else q)|_,_,_=>.no
def a0o_ (E:Env) (s:St) (c x y:Operand):Prop:=
 dg_ (s.ev E c)=true∧match s.pv E c,s.pv E x,s.pv E y with
  |.b b,.b _,.b _=>(b=true→dg_ (s.ev E x)=true)∧(b=false→dg_ (s.ev E y)=true)
  |_,_,_=>False
def z9_:V→Bool|.pt _ z _ _=>z != 0|.rp _=>true|_=>false
def avj_ (P:Program) (dst:TypeId) (x:V):V:=match ax_ P dst,x with|some ⟨.int k',_,_⟩,.i _ n=>.i k' (k'.wrap n)|_,_=>.no
def a0v_ (P:Program) (src dst:TypeId) (x:V):Prop:=(ax_ P src).isSome=true∧match ax_ P dst,x with|some ⟨.int _,_,_⟩,.i _ _=>True|_,_=>False
def idxV (x i:V):V:=match x,i with|.s l,.i _ n=>.i .u8 (l.getD n.toNat 0).toNat|_,_=>.no
def idxC (P:Program) (t:TypeId) (x i:V):Prop:=match x,i with|.s l,.i _ n=>(ax_ P t).map (·.k)=some .str∧0≤n∧n<l.length|_,_=>False
def maxV (x y:V):V:=match x,y with|.i k p,.i _ q=>.i k (if q > p then q else p)|_,_=>.no
def minV (x y:V):V:=match x,y with|.i k p,.i _ q=>.i k (if q<p then q else p)|_,_=>.no
def or_ (x y:V):Prop:=match x,y with|.i k _,.i k' _=>k=k'|_,_=>False
def jk_ (P:Program) (t:TypeId):Option (Nat × Nat × Nat × List V):=match ax_ P t with|some ⟨.sl el z y zc,_,_⟩=>some (el,z,y,zc)|_=>none
theorem g5_ {P:Program} {t:TypeId} {el z y:Nat} {zc:List V} (h:jk_ P t=some (el,z,y,zc)):(ax_ P t).map (·.k)=some (.sl el z y zc):=by
 unfold jk_ at h
 split at h
 ·rename_i h1;cases h;simp[h1]
 cases h
def tySt (P:Program) (t:TypeId):Option (List (Nat × Nat × Bool)):=match ax_ P t with|some ⟨.st fs,_,_⟩=>some fs|_=>none
theorem yq_ {P:Program} {t:TypeId} {fs:List (Nat × Nat × Bool)} (h:tySt P t=some fs):(ax_ P t).map (·.k)=some (.st fs):=by
 unfold tySt at h
 split at h
 ·rename_i h1;cases h;simp[h1]
 cases h
def tySz (P:Program) (t:TypeId):Option (Bool × Nat):=(ax_ P t).map fun ti=>(ti.k.agg,ti.size)
theorem yg_ {P:Program} {t:TypeId} {ag:Bool} {n:Nat} (h:tySz P t=some (ag,n)):∃ti,ax_ P t=some ti∧ti.k.agg=ag∧ti.size=n:=by
 unfold tySz at h
 cases ht:ax_ P t with
 |none=>simp[ht]at h
 |some ti=>simp[ht]at h;exact⟨ti,rfl,h.1,h.2⟩
def az4_ (o:Option (List V)):List V:=o.getD []
def aho_ (o:Option (List (List V))):List (List V):=o.getD []
def evO (E:Env) (o:Oper) (s:St):Eff:=
 match o.op with
 |.move x|.assign x|.nilCheck x=>{ v:=s.pv E x }
 |.pick c x y=>{ v:=a0h_ (s.pv E c) (s.pv E x) (s.pv E y) }
 |.alloc t=>s6_ (nm o) t (aq_ E.P t).cells
 |.box t x=>s6_ (nm o) t (s.pv E x).cells
 |.build t ps=>match tySt E.P t with|some fs=>{ v:=.ag (az4_ (s2_ fs (aq_ E.P t).cells (hp_ E s ps))) }|none=>{ v:=.no }
 |.buildSlice t n ps=>match jk_ E.P t with|some (_,z,_,zc)=>{ v:=.sl true (aho_ (l6_ z (List.replicate n zc) (hp_ E s ps))) }|none=>{ v:=.no }
 |.load t x=>match tySz E.P t with|some (ag,n)=>{ v:=ldV ag n s.m (s.pv E x),rd:=cc_ (s.pv E x) }|none=>{ v:=.no }
 |.store _ x y=>stV s.m (s.pv E x) (s.pv E y)
 |.binOp op _ x y _=>{ v:=af0_ op (s.pv E x) (s.pv E y) }
 |.unOp op _ x=>{ v:=aunV op (s.pv E x) }
 |.convert _ dst x=>{ v:=avj_ E.P dst (s.pv E x) }
 |.makeFunc f first captured=>{ v:=.fn f (first.toList.map (s.pv E)) (captured.toList.map (s.pv E)) }
 |.makeSlice t l _=>match jk_ E.P t,s.pv E l with|some (el,z,_,zc),.i _ n=>mkE (nm o) el z zc n.toNat|_,_=>{ v:=.no }
 |.slice _ x lo hi mx=>match ioV (lo.map (s.pv E)),ioV (hi.map (s.pv E)),ioV (mx.map (s.pv E))with|some l,some h,some m=>{ v:=slcV (s.pv E x) l h m }|_,_,_=>{ v:=.no }
 |.fieldAddr t x f=>match (tySt E.P t).bind (·[f]?)with|some (off,_,_)=>{ v:=fldV off (s.pv E x) }|none=>{ v:=.no }
 |.indexAddr t x i=>match jk_ E.P t with|some (_,z,_,_)=>{ v:=ixaV z (s.pv E x) (s.pv E i) }|none=>{ v:=.no }
 |.index _ x i=>{ v:=idxV (s.pv E x) (s.pv E i) }
 |.extract x i=>{ v:=extV (s.pv E x) i }
 |.call { callee:=.builtin .len,args:=a0s,.. }=>match a0s.toList with|[x]=>{ v:=lenV (s.pv E x) }|_=>{ v:=.no }
 |.call { callee:=.builtin .max,args:=a0s,.. }=>match a0s.toList with|[x,y]=>{ v:=maxV (s.pv E x) (s.pv E y) }|_=>{ v:=.no }
 |.call { callee:=.builtin .min,args:=a0s,.. }=>match a0s.toList with|[x,y]=>{ v:=minV (s.pv E x) (s.pv E y) }|_=>{ v:=.no }
 |.call { callee:=.builtin .append,args:=a0s,argTypes:=ts }=>match a0s.toList,ts.toList with
  |[x,y],[t,_]=>match jk_ E.P t with|some (el,z,_,_)=>appE s.m (s.pv E x) (s.pv E y) el z (nm o)|none=>{ v:=.no }
  |_,_=>{ v:=.no }
 |_=>{ v:=.no }
def obO (E:Env) (o:Oper) (s:St):Prop:=
 match o.op with
 |.pick c x y=>a0o_ E s c x y
 |.move _|.assign _|.makeFunc _ _ _=>pcB E o s=true
 |.nilCheck x=>pcB E o s=true∧z9_ (s.pv E x)=true
 |.alloc t=>(aq_ E.P t).cells.all V.one=true∧((aq_ E.P t).cells.length != 0)=true
 |.box _ x=>pcB E o s=true∧okC (s.pv E x)=true∧((s.pv E x).cells.length != 0)=true
 |.build t ps=>pcB E o s=true∧match tySt E.P t with|some fs=>c7_ fs=true∧(aq_ E.P t).cells.all V.one=true∧(s2_ fs (aq_ E.P t).cells (hp_ E s ps)).isSome=true|none=>False
 |.buildSlice t n ps=>pcB E o s=true∧match jk_ E.P t with|some (_,z,_,zc)=>0<z∧zc.length=z∧n * z≤16777216∧zc.all V.one=true∧(l6_ z (List.replicate n zc) (hp_ E s ps)).isSome=true|none=>False
 |.load t x=>pcB E o s=true∧match tySz E.P t with|some (ag,n)=>(ag=false→n=1)∧ldC n s.m (s.pv E x)|none=>False
 |.store t x y=>pcB E o s=true∧match tySz E.P t with|some (_,n)=>stC n s.m (s.pv E x) (s.pv E y)|none=>False
 |.binOp op t x y _=>pcB E o s=true∧al6_ E.P op t (s.pv E x) (s.pv E y)
 |.unOp op _ x=>pcB E o s=true∧aunC op (s.pv E x)
 |.convert src dst x=>pcB E o s=true∧a0v_ E.P src dst (s.pv E x)
 |.makeSlice t l c=>pcB E o s=true∧match jk_ E.P t,s.pv E l,s.pv E c with|some (_,z,y,zc),.i _ n,.i _ n'=>n'=n∧0<z∧zc.length=z∧zc.all V.one=true∧0≤n∧n * y≤140737488355328∧0<y|_,_,_=>False
 |.slice t x lo hi mx=>pcB E o s=true∧match ioV (lo.map (s.pv E)),ioV (hi.map (s.pv E)),ioV (mx.map (s.pv E))with|some l,some h,some m=>slcC ((ax_ E.P t).map (·.k)) (s.pv E x) l h m|_,_,_=>False
 |.fieldAddr t x f=>pcB E o s=true∧match (tySt E.P t).bind (·[f]?)with|some (_,size,_)=>0<size∧z9_ (s.pv E x)=true|none=>False
 |.indexAddr t x i=>pcB E o s=true∧match jk_ E.P t with|some (_,z,_,_)=>0<z∧ixaC z (s.pv E x) (s.pv E i)|none=>False
 |.index t x i=>pcB E o s=true∧idxC E.P t (s.pv E x) (s.pv E i)
 |.extract x i=>pcB E o s=true∧extC (s.pv E x) i
 |.call { callee:=.builtin .len,args:=a0s,argTypes:=ts }=>pcB E o s=true∧match a0s.toList,ts.toList with|[x],[t]=>lenC E.P t (s.pv E x)|_,_=>False
 |.call { callee:=.builtin .max,args:=a0s,.. }=>pcB E o s=true∧match a0s.toList with|[x,y]=>or_ (s.pv E x) (s.pv E y)|_=>False
 |.call { callee:=.builtin .min,args:=a0s,.. }=>pcB E o s=true∧match a0s.toList with|[x,y]=>or_ (s.pv E x) (s.pv E y)|_=>False
 |.call { callee:=.builtin .append,args:=a0s,argTypes:=ts }=>pcB E o s=true∧match a0s.toList,ts.toList with
  |[x,y],[t,t']=>t'=t∧match jk_ E.P t with|some (el,z,yb,zc)=>0<z∧0<yb∧zc.length=z∧zc.all V.one=true∧appC s.m (s.pv E x) (s.pv E y) el z yb|none=>False
  |_,_=>False
 |_=>False
theorem aw4_ {v:V} (h:z9_ v=true):fldC v:=by cases v<;>simp[z9_]at h<;>first|trivial|(simp only[fldC];omega)
theorem g7_ {α:Type} {a0s:Array α} {l:List α} (h:a0s.toList=l):a0s=l.toArray:=by rw[←h]
set_option maxHeartbeats 1000000 in
theorem ava_ (h:obO E o s):Op1 E o s (evO E o s):=by
 obtain⟨dst,op,ty,pos,after,guard⟩:=o
 cases op<;>simp only[obO]at h<;>try exact h.elim
 case move x=>exact aww_ (a4_ h) rfl
 case assign x=>exact ant_ (a4_ h) rfl
 case makeFunc f a c=>exact aet_ (a4_ h) rfl
 case pick c x y=>
  obtain⟨h1,h2⟩:=h
  simp only[evO]
  generalize hc:s.pv E c=vc at h2
  generalize hx:s.pv E x=vx at h2
  generalize hy:s.pv E y=vy at h2
  cases vc<;>cases vx<;>cases vy<;>simp only[]at h2
  exact axk_ (o:=⟨dst,.pick c x y,ty,pos,after,guard⟩) rfl h1 hc (fun hb=>⟨h2.1 hb,hx⟩) (fun hb=>⟨h2.2 hb,hy⟩)
 case nilCheck x=>
  refine afh_ (a4_ h.1) rfl ?_
  have h2:=h.2
  revert h2
  cases s.pv E x<;>intro h2<;>simp[z9_]at h2
  ·exact .inl ⟨_,_,_,_,by omega,rfl⟩
  exact .inr ⟨_,rfl⟩
 case alloc t=>exact as9_ rfl rfl h.1 h.2
 case box t x=>exact a09_ (a4_ h.1) rfl h.2.1 h.2.2
 case build t ps=>
  obtain⟨h1,h2⟩:=h
  simp only[evO]
  cases ht:tySt E.P t with
  |none=>simp[ht]at h2
  |some fs=>
   simp only[ht]at h2 ⊢
   obtain⟨h3,h4,h5⟩:=h2
   obtain⟨cs,hcs⟩:=Option.isSome_iff_exists.1 h5
   rw[hcs]
   exact asc_ (a4_ h1) rfl (yq_ ht) h3 rfl (dc_ h4) hcs
 case buildSlice t n ps=>
  obtain⟨h1,h2⟩:=h
  simp only[evO]
  cases ht:jk_ E.P t with
  |none=>simp[ht]at h2
  |some x=>
   obtain⟨el,z,y,zc⟩:=x
   simp only[ht]at h2 ⊢
   obtain⟨h3,h4,h5,h6,h7⟩:=h2
   obtain⟨cs,hcs⟩:=Option.isSome_iff_exists.1 h7
   rw[hcs]
   exact xe_ (a4_ h1) rfl (g5_ ht) h3 h4 h5 h6 hcs
 case load t x=>
  obtain⟨h1,h2⟩:=h
  simp only[evO]
  cases ht:tySz E.P t with
  |none=>simp[ht]at h2
  |some p=>
   obtain⟨ag,n⟩:=p
   simp only[ht]at h2 ⊢
   obtain⟨ti,h3,rfl,rfl⟩:=yg_ ht
   exact ayu_ (a4_ h1) rfl h3 h2.1 h2.2
 case store t x y=>
  obtain⟨h1,h2⟩:=h
  cases ht:tySz E.P t with
  |none=>simp[ht]at h2
  |some p=>
   obtain⟨ag,n⟩:=p
   simp only[ht]at h2
   obtain⟨ti,h3,rfl,rfl⟩:=yg_ ht
   exact ap1_ (a4_ h1) rfl h3 h2
 case binOp op t x y t'=>exact a00_ (a4_ h.1) rfl h.2
 case unOp op t x=>exact a6n_ (a4_ h.1) rfl h.2
 case convert src dst' x=>
  obtain⟨h1,h2,h3⟩:=h
  simp only[evO]
  generalize hx:s.pv E x=vx at h3 ⊢
  cases ht:ax_ E.P dst' with
  |none=>simp[ht]at h3
  |some ti=>
   obtain⟨k,n,z⟩:=ti
   cases k<;>cases vx<;>simp only[ht]at h3
   rename_i k' k n
   simp only[avj_,ht]
   exact ax8_ (o:=⟨dst,.convert src dst' x,ty,pos,after,guard⟩) (a4_ h1) rfl h2 (by simp[ht]) hx
 case makeSlice t l c=>
  obtain⟨h1,h2⟩:=h
  simp only[evO]
  generalize hl:s.pv E l=vl at h2 ⊢
  generalize hc:s.pv E c=vc at h2
  cases ht:jk_ E.P t with
  |none=>simp[ht]at h2
  |some x=>
   obtain⟨el,z,y,zc⟩:=x
   cases vl<;>cases vc<;>simp only[ht]at h2
   obtain⟨rfl,h3,h4,h5,h6,h7,h8⟩:=h2
   exact abd_ (o:=⟨dst,.makeSlice t l c,ty,pos,after,guard⟩) (a4_ h1) rfl (g5_ ht) h3 h4 h5 hl hc h6 h7 h8
 case slice t x lo hi mx=>
  obtain⟨h1,h2⟩:=h
  simp only[evO]
  generalize hl:ioV (lo.map (s.pv E))=l at h2 ⊢
  generalize hh:ioV (hi.map (s.pv E))=hh' at h2 ⊢
  generalize hm:ioV (mx.map (s.pv E))=m at h2 ⊢
  cases l<;>cases hh'<;>cases m<;>simp only[]at h2
  exact avm_ (o:=⟨dst,.slice t x lo hi mx,ty,pos,after,guard⟩) (a4_ h1) rfl hl hh hm h2
 case fieldAddr t x f=>
  obtain⟨h1,h2⟩:=h
  simp only[evO]
  cases ht:tySt E.P t with
  |none=>simp[ht]at h2
  |some fs=>
   simp only[ht,Option.bind_some]at h2 ⊢
   cases hf:fs[f]? with
   |none=>simp[hf]at h2
   |some y=>
    obtain⟨off,size,ag⟩:=y
    simp only[hf]at h2 ⊢
    exact aaw_ (a4_ h1) rfl (yq_ ht) hf h2.1 (aw4_ h2.2)
 case indexAddr t x i=>
  obtain⟨h1,h2⟩:=h
  simp only[evO]
  cases ht:jk_ E.P t with
  |none=>simp[ht]at h2
  |some y=>
   obtain⟨el,z,yb,zc⟩:=y
   simp only[ht]at h2 ⊢
   exact aa2_ (a4_ h1) rfl (g5_ ht) h2.1 h2.2
 case index t x i=>
  obtain⟨h1,h2⟩:=h
  simp only[evO]
  generalize hx:s.pv E x=vx at h2 ⊢
  generalize hi:s.pv E i=vi at h2 ⊢
  cases vx<;>cases vi<;>simp only[idxC]at h2
  exact aql_ (o:=⟨dst,.index t x i,ty,pos,after,guard⟩) (a4_ h1) rfl h2.1 hx hi h2.2.1 h2.2.2
 case extract x i=>exact ahn_ (a4_ h.1) rfl h.2
 case call c=>
  obtain⟨callee,a0s,ts⟩:=c
  cases callee<;>try exact h.elim
  rename_i b
  cases b<;>try exact h.elim
  case append=>
   obtain⟨h1,h2⟩:=h
   simp only[evO]
   split at h2
   ·rename_i x y t t' ha htt
    obtain rfl:=g7_ ha
    obtain rfl:=g7_ htt
    obtain⟨rfl,h2⟩:=h2
    cases ht:jk_ E.P t' with
    |none=>simp[ht]at h2
    |some q=>
     obtain⟨el,z,yb,zc⟩:=q
     simp only[ht]at h2
     obtain⟨h3,h4,h5,h6,h7⟩:=h2
     simp only[ht]
     exact y6_ (o:=⟨dst,.call ⟨.builtin .append,#[x,y],#[t',t']⟩,ty,pos,after,guard⟩) (a4_ h1) rfl (g5_ ht) h3 h4 h5 h6 h7
   exact h2.elim
  case len=>
   obtain⟨h1,h2⟩:=h
   simp only[evO]
   split at h2
   ·rename_i x t ha htt
    obtain rfl:=g7_ ha
    obtain rfl:=g7_ htt
    exact a3g_ (o:=⟨dst,.call ⟨.builtin .len,#[x],#[t]⟩,ty,pos,after,guard⟩) (a4_ h1) rfl h2
   exact h2.elim
  case max=>
   obtain⟨h1,h2⟩:=h
   simp only[evO]
   split at h2
   ·rename_i x y ha
    obtain rfl:=g7_ ha
    generalize hx:s.pv E x=vx at h2 ⊢
    generalize hy:s.pv E y=vy at h2 ⊢
    cases vx<;>cases vy<;>simp only[or_]at h2
    subst h2
    exact a07_ (o:=⟨dst,.call ⟨.builtin .max,#[x,y],ts⟩,ty,pos,after,guard⟩) (a4_ h1) rfl hx hy
   exact h2.elim
  case min=>
   obtain⟨h1,h2⟩:=h
   simp only[evO]
   split at h2
   ·rename_i x y ha
    obtain rfl:=g7_ ha
    generalize hx:s.pv E x=vx at h2 ⊢
    generalize hy:s.pv E y=vy at h2 ⊢
    cases vx<;>cases vy<;>simp only[or_]at h2
    subst h2
    exact a2t_ (o:=⟨dst,.call ⟨.builtin .min,#[x,y],ts⟩,ty,pos,after,guard⟩) (a4_ h1) rfl hx hy
   exact h2.elim
/-! ### a region, reckoned -/
structure CallC (E:Env) where
 ef:Oper→St→Eff
 ob:Oper→St→Prop
 ok:∀o s,ob o s→Op1 E o s (ef o s)
def atc_:Oper→Bool
 | { op:=.call { callee:=.value _,.. },.. }=>true
 |_=>false
def isB:V→Bool|.b _=>true|_=>false
def gE (E:Env) (ops:Array Oper) (o:Oper) (s:St) (e:Eff):Eff:=
 match o.guard with
 |none=>e
 |some (j,f)=>match (ops[j]?).bind (·.dst)with
  |some d=>bif e.wr.isEmpty&&e.nw.isEmpty then { v:=.gd (jc_ (s.σ.getD d .no) f) e.v,rd:=e.rd } else bif jc_ (s.σ.getD d .no) f then e else { v:=.gd false e.v }
  |none=>{ v:=.no }
def gO (E:Env) (ops:Array Oper) (o:Oper) (s:St) (e:Eff) (p:Prop):Prop:=
 match o.guard with
 |none=>p∧(e.nw.all fun l=>!s.u l)=true
 |some (j,f)=>match (ops[j]?).bind (·.dst)with
  |some d=>isB (peel (s.σ.getD d .no))=true∧(jc_ (s.σ.getD d .no) f=true→p∧(e.nw.all fun l=>!s.u l)=true)
  |none=>False
theorem gOk {ops:Array Oper} {p:Prop} (hp:p→Op1 E o s e) (h:gO E ops o s e p):RS1 E ops o s (gE E ops o s e)∧∀l∈(gE E ops o s e).nw,s.u l=false:=by
 unfold gO at h
 unfold gE RS1
 cases hg:o.guard with
 |none=>
  simp only[hg]at h ⊢
  exact⟨hp h.1,fun l hl=>by have:=List.all_eq_true.1 h.2 l hl;simpa using this⟩
 |some jf=>
  obtain⟨j,f⟩:=jf
  simp only[hg]at h ⊢
  cases hd:(ops[j]?).bind (·.dst)with
  |none=>simp[hd]at h
  |some d=>
   simp only[hd]at h ⊢
   obtain⟨h1,h4⟩:=h
   have hc:∃c,peel (s.σ.getD d .no) = .b c:=by
    generalize peel (s.σ.getD d .no)=v at h1
    cases v<;>first|exact⟨_,rfl⟩|exact absurd h1 (by simp[isB])
   obtain⟨c,hb⟩:=hc
   cases h23:e.wr.isEmpty&&e.nw.isEmpty with
   |true=>
    simp only[Bool.and_eq_true]at h23
    obtain⟨h2,h3⟩:=h23
    simp only[cond_true]
    refine⟨⟨d,c,rfl,hb,.inl ⟨e.v,rfl,fun hgc=>?_⟩⟩,fun l hl=>by cases hl⟩
    have e1:e={ v:=e.v,rd:=e.rd }:=by
     obtain⟨v,wr,nw,rd⟩:=e
     simp only[List.isEmpty_iff]at h2 h3
     subst h2 h3
     rfl
    have:=hp (h4 hgc).1
    rwa [e1]at this
   |false=>
    simp only[cond_false]
    cases hgc:jc_ (s.σ.getD d .no) f with
    |true=>
     simp only[cond_true]
     exact⟨⟨d,c,rfl,hb,.inr (.inl ⟨hgc,hp (h4 hgc).1⟩)⟩,fun l hl=>by have:=List.all_eq_true.1 (h4 hgc).2 l hl;simpa using this⟩
    |false=>
     simp only[cond_false]
     exact⟨⟨d,c,rfl,hb,.inl ⟨e.v,by rw[hgc],fun h=>by rw[hgc]at h;cases h⟩⟩,fun l hl=>by cases hl⟩
def lxs (E:Env) (sel:List Nat) (ops:Array Oper):List Oper→St→List (CallC E)→List Eff→Prop→Prop × List Eff × St
 |[],s,_,es,p=>(p,es.reverse,s)
 |o::r,s,cs,es,p=>
  match atc_ o||sel.contains (o.dst.getD 0)with
  |true=>match cs with
   |c::cs=>lxs E sel ops r (s.eff o.dst (gE E ops o s (c.ef o s))) cs (gE E ops o s (c.ef o s)::es) (p∧gO E ops o s (c.ef o s) (c.ob o s))
   |[]=>(False,es.reverse,s)
  |false=>lxs E sel ops r (s.eff o.dst (gE E ops o s (evO E o s))) cs (gE E ops o s (evO E o s)::es) (p∧gO E ops o s (evO E o s) (obO E o s))
theorem aaj_ {sel:List Nat} {ops:Array Oper}:∀ {l:List Oper} {s s':St} {cs:List (CallC E)} {es0 es:List Eff} {p0 p:Prop},lxs E sel ops l s cs es0 p0=(p,es,s')→p→p0∧∃es1,es=es0.reverse++es1∧Lex E ops l s es1 s'
 |[],s,s',cs,es0,es,p0,p,h,hp=>by
  simp only[lxs,Prod.mk.injEq]at h
  obtain⟨rfl,rfl,rfl⟩:=h
  exact⟨hp,[],by simp,.nil s⟩
 |o::r,s,s',cs,es0,es,p0,p,h,hp=>by
  simp only[lxs]at h
  split at h
  ·cases cs with
   |nil=>simp only[Prod.mk.injEq]at h;rw[←h.1]at hp;exact hp.elim
   |cons c cs=>
    obtain⟨⟨h0,h1⟩,es1,h2,h3⟩:=aaj_ h hp
    obtain⟨k1,k2⟩:=gOk (c.ok o s) h1
    exact⟨h0,gE E ops o s (c.ef o s)::es1,by rw[h2];simp,.cons k1 k2 h3⟩
  obtain⟨⟨h0,h1⟩,es1,h2,h3⟩:=aaj_ h hp
  obtain⟨k1,k2⟩:=gOk ava_ h1
  exact⟨h0,gE E ops o s (evO E o s)::es1,by rw[h2];simp,.cons k1 k2 h3⟩
variable {Q:Exit→St→Prop}
theorem AWp.rgnS {id:Nat} {l:List Oper} (sel:List Nat) (cs:List (CallC E)) {p:Prop} {es:List Eff} (h:lxs E sel l.toArray l s cs [] True=(p,es,s')) (hp:p) (hq:Q .normal s'):AWp E C (.region id l.toArray false) Q s:=by
 obtain⟨_,es1,_,hl⟩:=aaj_ h hp
 exact AWp.region hl hq
theorem AWp.rgnDS {id:Nat} {l:List Oper} (sel:List Nat) (cs:List (CallC E)) {p:Prop} {es:List Eff} (hm:E.P.follows .mixedOrders=true) (h:lxs E sel l.toArray l s cs [] True=(p,es,s')) (hB:ja_ l.toArray (es.map cu_)=true) (hp:p) (hq:Q .normal s'):AWp E C (.region id l.toArray true) Q s:=by
 obtain⟨_,es1,he,hl⟩:=aaj_ h hp
 simp only[List.reverse_nil,List.nil_append]at he
 subst he
 exact AWp.regionDraw hm hl hB hq
theorem AWp.rgn {id:Nat} {l:List Oper} (cs:List (CallC E)) {p:Prop} {es:List Eff} (h:lxs E [] l.toArray l s cs [] True=(p,es,s')) (hp:p) (hq:Q .normal s'):AWp E C (.region id l.toArray false) Q s:=AWp.rgnS [] cs h hp hq
theorem AWp.rgnD {id:Nat} {l:List Oper} (cs:List (CallC E)) {p:Prop} {es:List Eff} (hm:E.P.follows .mixedOrders=true) (h:lxs E [] l.toArray l s cs [] True=(p,es,s')) (hB:ja_ l.toArray (es.map cu_)=true) (hp:p) (hq:Q .normal s'):AWp E C (.region id l.toArray true) Q s:=AWp.rgnDS [] cs hm h hB hp hq
end
end
section
open Go.RowKit
def ae_:List (Nat × Blk)→Mem
 |[],_=>none
 |(l,b)::r,x=>if x=l then some b else ae_ r x
theorem anz_ (x:Nat):ae_ [] x=none:=rfl
theorem aib_ (l:Nat) (b:Blk) (r:List (Nat × Blk)) (x:Nat):ae_ ((l,b)::r) x=if x=l then some b else ae_ r x:=rfl
def xk_:List (Nat × Blk)→Nat→Blk→List (Nat × Blk)
 |[],l,b=>[(l,b)]
 |(l',b')::r,l,b=>if l=l' then(l,b)::r else(l',b')::xk_ r l b
def delM:List (Nat × Blk)→Nat→List (Nat × Blk)
 |[],_=>[]
 |(l',b')::r,l=>if l=l' then delM r l else(l',b')::delM r l
theorem ok_ (L:List (Nat × Blk)) (l:Nat) (b:Blk):upd (ae_ L) l (some b)=ae_ (xk_ L l b):=by
 induction L with
 |nil=>funext x;simp only[upd,ae_,xk_]
 |cons p r ih=>
  obtain⟨l',b'⟩:=p
  funext x
  have:=congrFun ih x
  simp only[upd,ae_,xk_]at this ⊢
  by_cases h:l=l'
  ·subst h
   simp only[if_true,ae_]
   by_cases hx:x=l<;>simp[hx]
  simp only[h,if_false,ae_]
  by_cases hx:x=l'
  ·subst hx;simp[Ne.symm h]
  simp only[hx,if_false];exact this
theorem apu_ (L:List (Nat × Blk)) (l:Nat):upd (ae_ L) l none=ae_ (delM L l):=by
 induction L with
 |nil=>funext x;simp only[upd,ae_,delM];split<;>rfl
 |cons p r ih=>
  obtain⟨l',b'⟩:=p
  funext x
  have:=congrFun ih x
  simp only[upd,ae_,delM]at this ⊢
  by_cases h:l=l'
  ·subst h
   simp only[if_true]
   by_cases hx:x=l
   ·simp only[hx,if_true]at this ⊢;exact this
   simp only[hx,if_false]at this ⊢;exact this
  simp only[h,if_false,ae_]
  by_cases hx:x=l'
  ·subst hx;simp[Ne.symm h]
  simp only[hx,if_false];exact this
def te_:Nat→List Blk→List (Nat × Blk)
 |_,[]=>[]
 |k,b::r=>(k,b)::te_ (k+1) r
theorem aeh_:∀(L:List Blk) (k x:Nat),ae_ (te_ k L) x=if k≤x then L[x - k]? else none
 |[],k,x=>by simp[te_,ae_]
 |b::r,k,x=>by
  simp only[te_,ae_,aeh_ r (k+1) x]
  by_cases h:x=k
  ·subst h;simp
  by_cases hk:k≤x
  ·rw[if_neg h,if_pos (by omega),if_pos hk,show x - k=(x - (k+1))+1 by omega];simp
  rw[if_neg h,if_neg (by omega),if_neg hk]
theorem azt_ (L:List Blk):lq_ L=ae_ (te_ 0 L):=by
 funext x;rw[aeh_];simp[lq_]
def us (L:List Nat):Nat→Bool:=fun x=>decide (x<10)||decide (1000000000≤x)||L.contains x
def wrL:List (Nat × Blk)→List (Nat × Option Blk)→List (Nat × Blk)
 |L,[]=>L
 |L,(l,some b)::r=>wrL (xk_ L l b) r
 |L,(l,none)::r=>wrL (delM L l) r
theorem t3_:∀(wr:List (Nat × Option Blk)) (L:List (Nat × Blk)) ,wr.foldl (fun m p=>upd m p.1 p.2) (ae_ L)=ae_ (wrL L wr)
 |[],L=>rfl
 |(l,some b)::r,L=>by simp only[List.foldl_cons,wrL,ok_];exact t3_ r _
 |(l,none)::r,L=>by simp only[List.foldl_cons,wrL,apu_];exact t3_ r _
theorem pv_ (U nw:List Nat) (x:Nat):(us U x||nw.contains x)=us (U++nw) x:=by
 simp only[us,List.contains_eq_mem,List.mem_append,Bool.or_assoc]
 congr 1
 congr 1
 rw[←Bool.decide_or]
theorem asj_ (σ:List V) (L:List (Nat × Blk)) (U:List Nat) (t:Nat) (v:V) (wr:List (Nat × Option Blk)) (nw rd:List Nat) :
  St.eff ⟨σ,ae_ L,us U⟩ (some t) ⟨v,wr,nw,rd⟩=⟨σ.set t v,ae_ (wrL L wr),us (U++nw)⟩:=by
 apply St.ext'
 ·rfl
 ·exact t3_ wr L
 funext x;exact pv_ U nw x
theorem as6_ (σ:List V) (L:List (Nat × Blk)) (U:List Nat) (v:V) (wr:List (Nat × Option Blk)) (nw rd:List Nat) :
  St.eff ⟨σ,ae_ L,us U⟩ none ⟨v,wr,nw,rd⟩=⟨σ,ae_ (wrL L wr),us (U++nw)⟩:=by
 apply St.ext'
 ·rfl
 ·exact t3_ wr L
 funext x;exact pv_ U nw x
theorem v0_ (fn:Func) (vs:List V) (L0:List Blk):ma_ fn vs L0=⟨vs++List.replicate (fn.ntmps - vs.length) .no,ae_ (te_ 0 L0),us []⟩:=by
 apply St.ext'
 ·rfl
 ·exact azt_ L0
 funext x;simp[ma_,us,tc_]
section
variable {E:Env} {s:St} {o:Oper}
def oy_ (E:Env) (f:FuncId) (vs:List V) (o:Oper) (s:St):Prop:=
 match o.op with
 |.call { callee:=.value fo,args:=a0s,.. }=>match s.pv E fo with
  |.fn (.func f') first caps=>f'=f∧les (first++a0s.toList.map (s.pv E)++caps) vs
  |_=>False
 |_=>False
theorem n7_ {f:FuncId} {vs:List V} (h:oy_ E f vs o s):∃fo a0s ts first caps,o.op = .call { callee:=.value fo,args:=a0s,argTypes:=ts }∧s.pv E fo = .fn (.func f) first caps∧les (first++a0s.toList.map (s.pv E)++caps) vs:=by
 obtain⟨dst,op,ty,pos,after,guard⟩:=o
 cases op<;>simp only[oy_]at h
 rename_i c
 obtain⟨callee,a0s,ts⟩:=c
 cases callee<;>try exact h.elim
 rename_i fo
 dsimp only at h
 generalize hf:s.pv E fo=vf at h
 cases vf<;>try exact h.elim
 rename_i g first caps
 cases g<;>try exact h.elim
 obtain⟨rfl,h⟩:=h
 exact⟨fo,a0s,ts,first,caps,rfl,hf,h⟩
def ab_ {f:FuncId} {vs rs:List V} (A:ACall E f vs [] rs []):CallC E where
 ef:=fun _ _=>{ v:=if_ rs }
 ob:=fun o s=>pcB E o s=true∧oy_ E f vs o s∧bu_ vs=true∧bu_ rs=true
 ok:=fun o s ⟨h1,h2,h3,h4⟩=>by
  obtain⟨fo,a0s,ts,first,caps,ho,hf,ha⟩:=n7_ h2
  have:=alv_ (E:=E) (s:=s) (o:=o) [] [] (a4_ h1) ho hf A (by rw[ej_ [] vs h3];exact ha) rfl rfl rfl (Nat.le_refl _) .nil (fun i b hb=>by simp at hb) (em_ _ _ h3) (fun b hb=>by cases hb) (em_ _ _ h4) (fun b hb=>by cases hb)
  simpa[ez_,ej_ [] rs h4]using this
def ada_ (E:Env) (o:Oper) (s:St):List V:=
 match o.op with
 |.call { callee:=.value fo,args:=a0s,.. }=>match s.pv E fo with
  |.fn _ first caps=>first++a0s.toList.map (s.pv E)++caps
  |_=>[]
 |_=>[]
def u1_ (E:Env) (f:FuncId) (vs:List V) (o:Oper) (s:St):Prop:=
 match o.op with
 |.call { callee:=.value fo,args:=a0s,.. }=>match s.pv E fo with
  |.fn (.func f') first caps=>f'=f∧les ((first++a0s.toList.map (s.pv E)++caps).map (lend s.m)) vs
  |_=>False
 |_=>False
theorem af3_ {f:FuncId} {vs:List V} (h:u1_ E f vs o s):∃fo a0s ts first caps,o.op = .call { callee:=.value fo,args:=a0s,argTypes:=ts }∧s.pv E fo = .fn (.func f) first caps∧les ((first++a0s.toList.map (s.pv E)++caps).map (lend s.m)) vs∧ada_ E o s=first++a0s.toList.map (s.pv E)++caps:=by
 obtain⟨dst,op,ty,pos,after,guard⟩:=o
 cases op<;>simp only[u1_]at h
 rename_i c
 obtain⟨callee,a0s,ts⟩:=c
 cases callee<;>try exact h.elim
 rename_i fo
 dsimp only at h
 simp only[ada_]
 generalize hf:s.pv E fo=vf at h ⊢
 cases vf<;>try exact h.elim
 rename_i g first caps
 cases g<;>try exact h.elim
 obtain⟨rfl,h⟩:=h
 exact⟨fo,a0s,ts,first,caps,rfl,hf,h,rfl⟩
def kv_ {f:FuncId} {vs rs:List V} (A:ACall E f vs [] rs []):CallC E where
 ef:=fun o s=>{ v:=if_ rs,rd:=(ada_ E o s).flatMap cc_ }
 ob:=fun o s=>pcB E o s=true∧u1_ E f vs o s∧sk_ rs=true∧cls 0 vs=true
 ok:=fun o s ⟨h1,h2,h3,h4⟩=>by
  obtain⟨fo,a0s,ts,first,caps,ho,hf,ha,he⟩:=af3_ h2
  rw[he]
  exact asz_ (a4_ h1) ho hf A ha h3 h4
def aw_ (m:Mem) (η0:List Nat):List Nat→List Blk→Prop
 |[],[]=>True
 |n::ns,b::bs=>m n=some (rnB η0 b)∧aw_ m η0 ns bs
 |_,_=>False
theorem i3_ {m:Mem} {η0:List Nat}:∀ {η:List Nat} {L0:List Blk},aw_ m η0 η L0→η.length=L0.length∧∀i b,L0[i]? = some b→m (η.getD i 0)=some (rnB η0 b)
 |[],[],_=>⟨rfl,fun i b hb=>by simp at hb⟩
 |n::ns,b::bs,h=>by
  simp only[aw_]at h
  obtain⟨h1,h2⟩:=i3_ h.2
  refine⟨by simp[h1],fun i c hc=>?_⟩
  cases i with
  |zero=>simp at hc;subst hc;simpa using h.1
  |succ i=>simpa using h2 i c (by simpa using hc)
 |[],_::_,h|_::_,[],h=>by simp[aw_]at h
def a5_ (k:Nat):List Blk→Bool
 |[]=>true
 |b::r=>clr k b.rows&&a5_ k r
theorem ha_ {k:Nat}:∀ {L:List Blk},a5_ k L=true→∀b∈L,clr k b.rows=true
 |[],_,b,hb=>by cases hb
 |c::L,h,b,hb=>by
  simp only[a5_,Bool.and_eq_true]at h
  rcases List.mem_cons.1 hb with rfl|hb
  ·exact h.1
  exact ha_ h.2 b hb
def at_ {f:FuncId} {vs rs:List V} {L0 Lr:List Blk} (η x:List Nat) (A:ACall E f vs L0 rs Lr):CallC E where
 ef:=fun _ _=>ez_ η (η++x) rs Lr
 ob:=fun o s=>pcB E o s=true∧oy_ E f (rns η vs) o s∧aw_ s.m η η L0∧(η++x).length=Lr.length∧(η++x).Nodup∧cls η.length vs=true∧a5_ η.length L0=true∧cls (η++x).length rs=true∧a5_ (η++x).length Lr=true
 ok:=fun o s ⟨h1,h2,h3,h4,h5,h6,h7,h8,h9⟩=>by
  obtain⟨fo,a0s,ts,first,caps,ho,hf,ha⟩:=n7_ h2
  obtain⟨k1,k2⟩:=i3_ h3
  exact alv_ (E:=E) (s:=s) (o:=o) η (η++x) (a4_ h1) ho hf A ha k1 (by simp) h4 (by simp) h5 k2 h6 (ha_ h7) h8 (ha_ h9)
end
end
section
open Go.RowKit
theorem ac_ {n:Int} (h1 : -9223372036854775808≤n) (h2:n<9223372036854775808):IntKind.i64.wrap n=n:=by
 have e:(2:Int) ^ IntKind.i64.bits=18446744073709551616:=rfl
 have e':IntKind.i64.signed=true:=rfl
 have e2:(2:Int) ^ (IntKind.i64.bits - 1)=9223372036854775808:=rfl
 simp only[IntKind.wrap,e,e2,e',Bool.true_and,decide_eq_true_eq];split<;>omega
section
variable {E:Env} {fn:Func} {rs:List V} {s:St} {l:List ResultVar}
theorem Out.plain (hl:fn.results.toList=l) (h1:a1_ E.P s l) (h2:l.map (ba_ E.P s)=rs) (h3:bu_ rs=true):Out E fn 0 rs [] [] s:=by
 subst hl
 exact⟨h1,by rw[h2,ej_ [] rs h3];exact fu_ _,rfl,Nat.le_refl _,rfl,List.Pairwise.nil,em_ _ _ h3,fun b hb=>(by cases hb),fun i b hb=>(by simp at hb)⟩
theorem Out.mem' {k:Nat} {Lr:List Blk} {η:List Nat} (hl:fn.results.toList=l) (h1:a1_ E.P s l) (h2:l.map (ba_ E.P s)=rns η rs) (h3:k≤Lr.length) (h4:η.take k=List.range k) (h5:η.Nodup) (h6:cls Lr.length rs=true) (h7:a5_ Lr.length Lr=true) (h8:aw_ s.m η η Lr):Out E fn k rs Lr η s:=by
 subst hl
 obtain⟨k1,k2⟩:=i3_ h8
 exact⟨h1,by rw[h2];exact fu_ _,k1,h3,h4,h5,h6,ha_ h7,k2⟩
theorem Out.plainL (hl:fn.results.toList=l) (h1:a1_ E.P s l) (h2:les (l.map (ba_ E.P s)) rs) (h3:bu_ rs=true):Out E fn 0 rs [] [] s:=by
 subst hl
 exact⟨h1,by rw[ej_ [] rs h3];exact h2,rfl,Nat.le_refl _,rfl,List.Pairwise.nil,em_ _ _ h3,fun b hb=>(by cases hb),fun i b hb=>(by simp at hb)⟩
theorem Out.memL' {k:Nat} {Lr:List Blk} {η:List Nat} (hl:fn.results.toList=l) (h1:a1_ E.P s l) (h2:les (l.map (ba_ E.P s)) (rns η rs)) (h3:k≤Lr.length) (h4:η.take k=List.range k) (h5:η.Nodup) (h6:cls Lr.length rs=true) (h7:a5_ Lr.length Lr=true) (h8:aw_ s.m η η Lr):Out E fn k rs Lr η s:=by
 subst hl
 obtain⟨k1,k2⟩:=i3_ h8
 exact⟨h1,h2,k1,h3,h4,h5,h6,ha_ h7,k2⟩
variable {C:Cx} {Q:Exit→St→Prop}
theorem AWp.condB {c:Operand} {x y:Code} {t:Bool} (hc:s.pv E c = .b t) (hp:dg_ (s.ev E c)=true) (h1:t=true→AWp E C x Q s) (h0:t=false→AWp E C y Q s):AWp E C (.cond c x y) Q s:=
 AWp.cond hp hc (by cases t<;>simp_all)
def av_ (L:List (Nat × Blk)) (U:List Nat):List (Nat × Blk)→Prop
 |[]=>True
 |(l,b)::r=>ae_ L l=some b∧us U l=true∧au_ (us U) b.rows=true∧av_ L U r
theorem yz_ {L:List (Nat × Blk)} {U:List Nat}:∀ {L':List (Nat × Blk)},av_ L U L'→∀l b,ae_ L' l=some b→ae_ L l=some b∧us U l=true∧au_ (us U) b.rows=true
 |[],_,l,b,hb=>by simp[ae_]at hb
 |(l',b')::r,h,l,b,hb=>by
  simp only[av_]at h
  simp only[ae_]at hb
  split at hb
  ·rename_i e;subst e;cases hb;exact⟨h.1,h.2.1,h.2.2.1⟩
  exact yz_ h.2.2.2 l b hb
theorem Weak.lit {σ σ':List V} {L L':List (Nat × Blk)} {U U':List Nat} (h:les σ σ') (hi:as_ (us U') σ'=true) (hL:av_ L U' L'):Weak ⟨σ,ae_ L,us U⟩ ⟨σ',ae_ L',us U'⟩:=
 ⟨h,hi,fun l b hb=>yz_ hL l b hb,fun l hl=>by simp only[tc_]at hl;simp[us,hl]⟩
theorem AWp.seqJ {κ:Type} {x y:Code} (M:κ→St) (I:κ→Prop) (h:AWp E C x (ami_ (fun s'=>∃k,I k∧Can E C s' (M k)) Q) s) (k:∀k,I k→AWp E C y Q (M k)):AWp E C (.seq x y) Q s:=by
 refine .seq (h.mono fun e s' q=>?_)
 cases e with
 |normal=>
  obtain⟨j,h1,h2⟩:=q
  exact(k j h1).can h2
 |_=>exact q
theorem AWp.loopK {κ:Type} {c:Code} (st:κ→St) (I:κ→Prop) (μ:κ→Nat) (k0:κ) (h0:I k0) (hs:Can E C s (st k0)) (h:∀k,I k→AWp E C c (ami_ (fun s'=>∃k',I k'∧μ k'<μ k∧Can E C s' (st k')) Q) (st k)):AWp E C (.loop c) Q s:=by
 have main:AWp E C (.loop c) Q (st k0):=by
  refine .loop (fun n s=>∃k,I k∧n=μ k∧s=st k) ⟨k0,h0,rfl,rfl⟩ fun n s1 ⟨k,hk,hn,hst⟩=>?_
  subst hn hst
  refine(h k hk).mono fun e s' q=>?_
  cases e with
  |normal=>
   obtain⟨k',h1,h2,h3⟩:=q
   exact⟨μ k',st k',h2,⟨k',h1,rfl,rfl⟩,h3⟩
  |_=>exact q
 exact main.can hs
variable {o:Oper} {φ:Phi} {S:Nat→Prop} {w:World}
def bsE (l el z:Nat) (rs:List (List V)) (n:Nat):Eff:={ v:=.ow l z 0 n,wr:=[(l,some ⟨el,z,rs⟩)],nw:=[l] }
theorem uj_ {t:TypeId} {n l':Nat} {ps:Array (Nat × Operand)} {el z y:Nat} {zc:List V} {rs:List (List V)} (hp:PC E o s) (ho:o.op = .buildSlice t n ps) (ht:(ax_ E.P t).map (·.k)=some (.sl el z y zc)) (hz:0<z) (hzl:zc.length=z) (hb:n * z≤16777216) (h1:zc.all V.one=true)
  (hf:l6_ z (List.replicate n zc) (hp_ E s ps)=some rs):Op1 E o s (bsE l' el z rs n):=by
 refine Op1.of fun s' e1 _ e3 C φ a w hr=>?_
 have hops:∀p∈ps.toList,p.2∈o.op.operands:=fun p hp=>by simp[ho,Op.operands];exact⟨p.1,Array.mem_toList_iff.1 hp⟩
 have hv:∀p∈ps.toList,VR φ (C.S φ s'.m) w (s.pv E p.2) (a.eval p.2):=fun p hp'=>by
  have e:=e1 p.2 (hops p hp')
  have:=hr.pv (x:=p.2) (by rw[e];exact hp p.2 (hops p hp'))
  unfold St.pv at this ⊢
  rwa [e]at this
 cases hti:ax_ E.P t with
 |none=>simp[hti]at ht
 |some ti=>
  simp[hti]at ht
  obtain⟨hu,hzz,hy,hzero⟩:=tn_ hti ht
  obtain⟨i,zv,hi,hiz,hzv,hzn⟩:=c9_ (φ:=φ) (S:=C.S φ s'.m) (w:=w) hzero.symm hzl (dc_ h1)
  have hmc:=go_ zv.cells n (by omega)
  rw[hzn]at hmc
  have hrep:=VRr.replicate hzl hzv (hzv.ones h1) n
  rw[←hmc]at hrep
  obtain⟨r1,ys,r2,r3⟩:=rz_ a.eval (s.pv E) ps.toList hv (List.replicate n zc) rs _ hrep hf
  rw[List.length_replicate]at r1
  have hrun:(execOp a.eval o).run E.P w = .ok (.value (.slice (some ⟨w.heap.size,0,none⟩) n n)) (w.alloc (.cells ys el)):=by
   have hso:=ce_ (P:=E.P) w hzz.symm hz
   have e2:(Array.range (n * z)).map (zv.cells[· % zv.cells.size]!)=madeCells zv.cells (n * z):=rfl
   have hb':¬(16777216<n * z):=by omega
   by_cases hn:n=0
   ·subst hn
    have e3:madeCells zv.cells (0 * z)=#[]:=by simp[madeCells]
    rw[e3]at r2
    simp[execOp,ho,Instr.buildSlice,run_underlying hu,hso,newRow]
    rw[show(Array.map (fun _=>default) (Array.range 0):Array Value)=#[]from by apply Array.ext';simp,r2]
    simp
   have hnz:n * z≠0:=Nat.mul_ne_zero hn (by omega)
   simp[execOp,ho,Instr.buildSlice,run_underlying hu,hso,hb',hnz,zeroValue,typeInfo,hi,hiz,newRow]
   rw[e2,r2]
   simp
  obtain⟨k1,k2⟩:=hr.alloc (e3 l' (by simp[bsE])) (arr:=ys) (T:=el) hz r3 List.take_length
  refine⟨_,_,_,.inl hrun,by simp only[bsE];rw[f0_];exact k1,?_⟩
  simp only[bsE,VR]
  refine⟨_,_,rfl,Nat.le_refl _,?_,.inr ⟨w.heap.size,el,ys.size,by simp,by simp,cr_ (heap_alloc_new w _),?_⟩⟩
  ·have:=Nat.le_mul_of_pos_right n hz
   unfold maxLen;omega
  have:=r3.len
  rw[r1,Array.length_toList]at this
  rw[Nat.zero_add];omega
def bsO (E:Env):CallC E where
 ef:=fun o s=>match o.op with
  |.buildSlice t n ps=>match jk_ E.P t with|some (el,z,_,zc)=>bsE (nm o) el z (aho_ (l6_ z (List.replicate n zc) (hp_ E s ps))) n|none=>{ v:=.no }
  |_=>{ v:=.no }
 ob:=fun o s=>pcB E o s=true∧match o.op with
  |.buildSlice t n ps=>match jk_ E.P t with|some (_,z,_,zc)=>0<z∧zc.length=z∧n * z≤16777216∧zc.all V.one=true∧(l6_ z (List.replicate n zc) (hp_ E s ps)).isSome=true|none=>False
  |_=>False
 ok:=fun o s ⟨h1,h2⟩=>by
  obtain⟨dst,op,ty,pos,after,guard⟩:=o
  cases op<;>try exact h2.elim
  rename_i t n ps _
  dsimp only at h2 ⊢
  cases ht:jk_ E.P t with
  |none=>simp[ht]at h2
  |some x=>
   obtain⟨el,z,y,zc⟩:=x
   simp only[ht]at h2 ⊢
   obtain⟨h3,h4,h5,h6,h7⟩:=h2
   obtain⟨cs,hcs⟩:=Option.isSome_iff_exists.1 h7
   rw[hcs]
   exact uj_ (a4_ h1) rfl (g5_ ht) h3 h4 h5 h6 hcs
def id_:List (List V)→Option Str
 |[]=>some []
 |[.i .u8 n]::r=>(id_ r).map (UInt8.ofNat n.toNat::·)
 |_=>none
theorem VRr.bytes {z:Nat}:∀ {rows:List (List V)} {xs:List Value} {l:Str},VRr φ S w z rows xs→id_ rows=some l→∃ns:List Int,xs=ns.map (Value.int .u8)∧l=ns.map fun n=>UInt8.ofNat n.toNat
 |[],xs,l,h,hb=>by simp only[VRr]at h;simp only[id_,Option.some.injEq]at hb;subst h hb;exact⟨[],rfl,rfl⟩
 |r::rows,xs,l,h,hb=>by
  simp only[VRr]at h
  obtain⟨ys,zs,rfl,_,h2,_,h3⟩:=h
  match r,hb,h2 with
  |[.i .u8 n],hb,h2=>
   simp only[id_,Option.map_eq_some_iff]at hb
   obtain⟨l',hb',rfl⟩:=hb
   obtain⟨ns,rfl,rfl⟩:=VRr.bytes h3 hb'
   simp only[VRs,VR]at h2
   obtain⟨x,q,rfl,rfl,rfl⟩:=h2
   exact⟨n::ns,rfl,rfl⟩
theorem a11_ {src dst:TypeId} {x:Operand} {el z y:Nat} {zc:List V} {rows:List (List V)} {l:Str} (hp:PC E o s) (ho:o.op = .convert src dst x) (hs:(ax_ E.P src).map (·.k)=some (.sl el z y zc)) (he:(ax_ E.P el).map (·.k)=some (.int .u8)) (hd:(ax_ E.P dst).map (·.k)=some .str)
  (hx:ro_ s.m (s.pv E x)=some rows) (hb:id_ rows=some l):Op1 E o s { v:=.s l,rd:=cc_ (s.pv E x) }:=by
 refine Op1.pure' hp fun φ S w ρ hr hm=>?_
 have h1:=hr x (by simp[ho,Op.operands])
 obtain⟨A,c,z',xs,e1,e2,e3,e4,e5,e6,_⟩:=l7_ h1 hx hm
 obtain⟨hu,_⟩:=db_ hs
 have hue:E.P.underlying el=some (.int .u8):=by
  cases h:ax_ E.P el with
  |none=>simp[h]at he
  |some ti=>simp[h]at he;exact vh_ h he
 have hud:E.P.underlying dst=some .string:=by
  cases h:ax_ E.P dst with
  |none=>simp[h]at hd
  |some ti=>simp[h]at hd;exact agl_ h hd
 obtain⟨ns,rfl,rfl⟩:=e4.bytes hb
 by_cases hne:ns=[]
 ·subst hne
  have hl:rows.length=0:=by
   cases rows with
   |nil=>rfl
   |cons r rs=>
    exfalso
    match r,hb with
    |[.i .u8 n],hb=>simp[id_]at hb
  refine⟨.string ByteArray.empty,?_,by simp only[VR];rfl⟩
  rw[hl]at e1
  have:(convert src dst (ρ x)).run E.P w = .ok (.string ByteArray.empty) w:=by
   rw[e1,run_convert_bytes_string w src dst el A 0 c hu hue hud]
   cases A with
   |none=>simp[Conv.bytesToString]
   |some a=>rw[run_bytesToString w a 0 c [] (by simp[loadCells,loadCellsFrom])];rfl
  simp only[execOp,ho,Sem.run_bind,this,Result.andThen_ok,Sem.run_pure]
 obtain⟨g,p,rfl,f⟩:=e6 (by simpa using hne)
 have hlen:ns.length=rows.length:=by
  have:∀(rows:List (List V)) (ns:List Int),id_ rows=some (ns.map fun n=>UInt8.ofNat n.toNat)→ns.length=rows.length:=by
   intro rows
   induction rows with
   |nil=>intro ns h;simp[id_]at h;simp[h]
   |cons r rs ih=>
    intro ns h
    match r,h with
    |[.i .u8 n],h=>
     simp only[id_,Option.map_eq_some_iff]at h
     obtain⟨l',h1,h2⟩:=h
     cases ns with
     |nil=>simp at h2
     |cons m ns=>simp only[List.map_cons,List.cons.injEq]at h2;rw[h2.2]at h1;simp[ih ns h1]
  exact this rows ns hb
 have:=run_convert_bytes_arg (P:=E.P) w src el hu hue g p rows.length c ns hlen (fun i hi=>f i (.int .u8 (ns.getD i 0)) (by
  rw[List.getElem?_map,List.getElem?_eq_getElem (by omega),List.getD_eq_getElem?_getD,List.getElem?_eq_getElem (by omega)];rfl)) dst hud
 exact⟨.string (strOfNums ns),by simp only[execOp,ho,e1,Sem.run_bind,this,Result.andThen_ok,Sem.run_pure],by simp only[VR,strOfNums]⟩
def cvV (E:Env) (s:St) (x:Operand):V:=match (ro_ s.m (s.pv E x)).bind id_ with|some l=>.s l|none=>.no
def cvO (E:Env):CallC E where
 ef:=fun o s=>match o.op with
  |.convert _ _ x=>{ v:=cvV E s x,rd:=cc_ (s.pv E x) }
  |_=>{ v:=.no }
 ob:=fun o s=>pcB E o s=true∧match o.op with
  |.convert src dst x=>(match jk_ E.P src with|some (el,_,_,_)=>(ax_ E.P el).map (·.k)=some (.int .u8)|none=>False)∧(ax_ E.P dst).map (·.k)=some .str∧((ro_ s.m (s.pv E x)).bind id_).isSome=true
  |_=>False
 ok:=fun o s ⟨h1,h2⟩=>by
  obtain⟨dst,op,ty,pos,after,guard⟩:=o
  cases op<;>try exact h2.elim
  rename_i src dst' x _
  dsimp only at h2 ⊢
  obtain⟨h3,h4,h5⟩:=h2
  cases ht:jk_ E.P src with
  |none=>simp[ht]at h3
  |some y=>
   obtain⟨el,z,yb,zc⟩:=y
   simp only[ht]at h3
   obtain⟨l,hl⟩:=Option.isSome_iff_exists.1 h5
   simp only[cvV,hl]
   obtain⟨rows,hr,hb⟩:=Option.bind_eq_some_iff.1 hl
   exact a11_ (a4_ h1) rfl (g5_ ht) h3 h4 hr hb
end
end
section
open Go.RowKit
mutual
def frz (l z:Nat) (rows:List (List V)):V→V
 |.ow l' z' p n=>if l'=l then(if z=z'∧p+n≤rows.length then .sl false ((rows.drop p).take n)else .no)else .ow l' z' p n
 |.pt l' z' r c=>if l'=l then(if z=z'∧r<rows.length∧0<z then .rp ((rows.getD r []).drop c)else .no)else .pt l' z' r c
 |.sl t rs=>.sl t (im_ l z rows rs)
 |.rp cs=>.rp (er_ l z rows cs)
 |.ag cs=>.ag (er_ l z rows cs)
 |.tu cs=>.tu (er_ l z rows cs)
 |.fn f a c=>.fn f (er_ l z rows a) (er_ l z rows c)
 |.gd c v=>.gd c (frz l z rows v)
 |.i k n=>.i k n
 |.b x=>.b x
 |.s x=>.s x
 |.np=>.np
 |.q P=>.q P
 |.no=>.no
def er_ (l z:Nat) (rows:List (List V)):List V→List V
 |[]=>[]
 |v::r=>frz l z rows v::er_ l z rows r
def im_ (l z:Nat) (rows:List (List V)):List (List V)→List (List V)
 |[]=>[]
 |v::r=>er_ l z rows v::im_ l z rows r
end
section
variable {E:Env} {C:Cx} {φ:Phi} {S S':Nat→Prop} {s s':St} {a:Act} {w w':World} {l z:Nat} {rows:List (List V)}
mutual
theorem aeu_:∀vs:List V,(er_ l z rows vs).length=vs.length
 |[]=>by simp only[er_]
 |v::r=>by simp only[er_,List.length_cons,aeu_ r]
theorem aex_:∀vs:List (List V),(im_ l z rows vs).length=vs.length
 |[]=>by simp only[im_]
 |v::r=>by simp only[im_,List.length_cons,aex_ r]
end
mutual
theorem adp_:∀v:V,v.pure=true→frz l z rows v=v
 |.ow _ _ _ _,h|.pt _ _ _ _,h=>by simp[V.pure]at h
 |.sl t rs,h=>by simp only[V.pure]at h;simp only[frz,kr_ rs h]
 |.rp cs,h=>by simp only[V.pure]at h;simp only[frz,hd_ cs h]
 |.ag cs,h=>by simp only[V.pure]at h;simp only[frz,hd_ cs h]
 |.tu cs,h=>by simp only[V.pure]at h;simp only[frz,hd_ cs h]
 |.fn f a c,h=>by simp only[V.pure,Bool.and_eq_true]at h;simp only[frz,hd_ a h.1,hd_ c h.2]
 |.gd c v,h=>by simp only[V.pure]at h;simp only[frz,adp_ v h]
 |.i _ _,_|.b _,_|.s _,_|.np,_|.no,_|.q _,_=>by simp only[frz]
theorem hd_:∀v:List V,bu_ v=true→er_ l z rows v=v
 |[],_=>by simp only[er_]
 |v::r,h=>by simp only[bu_,Bool.and_eq_true]at h;simp only[er_,adp_ v h.1,hd_ r h.2]
theorem kr_:∀v:List (List V),bg_ v=true→im_ l z rows v=v
 |[],_=>by simp only[im_]
 |v::r,h=>by simp only[bg_,Bool.and_eq_true]at h;simp only[im_,hd_ v h.1,kr_ r h.2]
end
structure FrzOk (φ:Phi) (S S':Nat→Prop) (w:World) (l z:Nat) (rows:List (List V)):Prop where
 sub:∀g,S g→S' g
 red:∃T,MR φ S' w l ⟨T,z,rows⟩
 blk:∀g,φ l=some (some g)→S' g∧g<w.heap.size
mutual
theorem VR.frz (F:FrzOk φ S S' w l z rows):∀ {v:V} {x:Value},VR φ S w v x→VR φ S' w (Go.Proofs.YthjccajoadjicaaGreatDoor.frz l z rows v) x
 |.ow l' z' p n,x,h=>by
  simp only[Go.Proofs.YthjccajoadjicaaGreatDoor.frz]
  by_cases e:l'=l
  ·subst e
   rw[if_pos rfl]
   split
   ·rename_i hh
    obtain⟨T,hm⟩:=F.red
    have h0:VR φ S' w (.ow l' z' p n) x:=by simp only[VR]at h ⊢;exact h
    obtain⟨A,c,z2,xs,e1,e2,e3,e4,e5,e6,_⟩:=l7_ (m:=fun _=>some ⟨T,z,rows⟩) (rows:=(rows.drop p).take n) h0 (by simp only[ro_,hh,and_self,if_true]) (fun l2 hl2 b2 hb2=>by
     simp only[cc_,List.mem_singleton]at hl2
     cases hb2;subst hl2;exact hm)
    simp only[VR]
    refine⟨A,c,z2,xs,e1,e2,e3,fun hx=>by simp at hx,fun hne=>?_,e4⟩
    obtain⟨g,q,f1,f2⟩:=e6 hne
    simp only[VR]at h
    obtain⟨A',c',k1,k2,k3,k4⟩:=h
    rw[e1]at k1
    have hA:A=A':=by injection k1
    have hcc:c=c':=by injection k1
    rcases k4 with k4|⟨g',T',m',k4,k5,_⟩
    ·have h0:((rows.drop p).take n).length=0:=by omega
     have:(rows.drop p).take n=[]:=List.length_eq_zero_iff.1 h0
     rw[this]at e4
     simp only[VRr]at e4
     exact absurd e4 hne
    have hg:g=g':=by rw[hA,k5]at f1;injection f1 with f1;injection f1 with f1;exact f1.symm
    obtain⟨b1,b2⟩:=F.blk g' k4
    exact⟨g,q,f1,by rw[hg];exact b1,by rw[hg];exact b2,f2⟩
   simp only[VR]
  rw[if_neg e];simp only[VR]at h ⊢;exact h
 |.pt l' z' r c,x,h=>by
  simp only[Go.Proofs.YthjccajoadjicaaGreatDoor.frz]
  by_cases e:l'=l
  ·subst e
   rw[if_pos rfl]
   split
   ·rename_i hh
    obtain⟨rfl,hr,hz⟩:=hh
    obtain⟨T,hm⟩:=F.red
    simp only[VR]at h
    obtain⟨g,h1,h2⟩:=h
    rw[dq_ hz]at h2
    obtain⟨b1,b2⟩:=F.blk g h1
    rcases hm with⟨k1,_⟩|⟨g',arr,xs,k1,k2,k3,k4,hzz⟩|⟨_,_,_,_,_,_,k1,_⟩
    ·rw[h1]at k1;cases k1
    ·rw[h1]at k1;cases k1
     obtain⟨q1,q2⟩:=k3.getRow hr
     simp only[VR]
     refine⟨g,r * z+c,_,h2,b1,b2,fun j u hu=>?_,q2.drop c⟩
     rw[cell_of_row w g _ arr _ _ k2]
     rw[List.getElem?_drop,List.getElem?_take]at hu
     split at hu
     ·rw[List.getElem?_drop,←k4,List.getElem?_take]at hu
      split at hu
      ·rw[Array.getElem?_toList]at hu;rw[←hu,Nat.add_assoc]
      cases hu
     cases hu
    dsimp only at k1;omega
   simp only[VR]
  rw[if_neg e];simp only[VR]at h ⊢;exact h
 |.sl t rs,x,h=>by
  simp only[Go.Proofs.YthjccajoadjicaaGreatDoor.frz,VR,aex_]at h ⊢
  obtain⟨A,c,z,xs,h1,h2,h3,h4,h5,h6⟩:=h
  exact⟨A,c,z,xs,h1,h2,h3,h4,fun hne=>let ⟨g,o,k1,k2,k3⟩:=h5 hne;⟨g,o,k1,F.sub g k2,k3⟩,VRr.frz F h6⟩
 |.rp cs,x,h=>by
  simp only[Go.Proofs.YthjccajoadjicaaGreatDoor.frz,VR]at h ⊢
  obtain⟨g,o,xs,h1,h2,h3,h4,h5⟩:=h
  exact⟨g,o,xs,h1,F.sub g h2,h3,h4,VRs.frz F h5⟩
 |.ag cs,x,h=>by
  simp only[Go.Proofs.YthjccajoadjicaaGreatDoor.frz,VR]at h ⊢
  obtain⟨xs,h1,h2⟩:=h
  exact⟨xs,h1,VRs.frz F h2⟩
 |.tu cs,x,h=>by
  simp only[Go.Proofs.YthjccajoadjicaaGreatDoor.frz,VR]at h ⊢
  obtain⟨xs,h1,h2⟩:=h
  exact⟨xs,h1,VRs.frz F h2⟩
 |.fn f a c,x,h=>by
  simp only[Go.Proofs.YthjccajoadjicaaGreatDoor.frz,VR]at h ⊢
  obtain⟨a',c',h1,h2,h3⟩:=h
  exact⟨a',c',h1,VRs.frz F h2,VRs.frz F h3⟩
 |.gd c v,x,h=>by
  simp only[Go.Proofs.YthjccajoadjicaaGreatDoor.frz,VR]at h ⊢
  exact⟨fun hc=>VR.frz F (h.1 hc),h.2⟩
 |.i _ _,x,h|.b _,x,h|.s _,x,h|.np,x,h|.no,x,h|.q _,x,h=>by simp only[Go.Proofs.YthjccajoadjicaaGreatDoor.frz,VR]at h ⊢<;>exact h
theorem VRs.frz (F:FrzOk φ S S' w l z rows):∀ {vs:List V} {xs:List Value},VRs φ S w vs xs→VRs φ S' w (er_ l z rows vs) xs
 |[],_,h=>by simp only[er_,VRs]at h ⊢;exact h
 |v::vs,xs,h=>by
  simp only[er_,VRs]at h ⊢
  obtain⟨x,r,h1,h2,h3⟩:=h
  exact⟨x,r,h1,VR.frz F h2,VRs.frz F h3⟩
theorem VRr.frz (F:FrzOk φ S S' w l z rows) {y:Nat}:∀ {rs:List (List V)} {xs:List Value},VRr φ S w y rs xs→VRr φ S' w y (im_ l z rows rs) xs
 |[],_,h=>by simp only[im_,VRr]at h ⊢;exact h
 |r::rs,xs,h=>by
  simp only[im_,VRr]at h ⊢
  obtain⟨ys,zs,h1,h2,h3,h4,h5⟩:=h
  exact⟨ys,zs,h1,(aeu_ r).trans h2,VRs.frz F h3,h4,VRr.frz F h5⟩
end
def frzB (l z:Nat) (rows:List (List V)) (b:Blk):Blk:={ b with rows:=im_ l z rows b.rows }
def px_ (l:Nat) (b:Blk):List (Nat × Blk)→List (Nat × Blk)
 |[]=>[]
 |(l',c)::r=>if l'=l then px_ l b r else(l',frzB l b.z b.rows c)::px_ l b r
theorem v8_ (l:Nat) (b:Blk):∀(L:List (Nat × Blk)) (x:Nat),ae_ (px_ l b L) x=if x=l then none else(ae_ L x).map (frzB l b.z b.rows)
 |[],x=>by simp[px_,ae_]
 |(l',c)::r,x=>by
  simp only[px_]
  split
  ·rename_i e;subst e
   rw[v8_ l' b r x]
   simp only[ae_]
   split<;>rfl
  rename_i e
  simp only[ae_,v8_ l b r x]
  by_cases hx:x=l'
  ·subst hx;simp[e]
  simp only[hx,if_false]
theorem RelAt.frz {σ:List V} {L:List (Nat × Blk)} {U:List Nat} {b:Blk} (h:RelAt E C φ ⟨σ,ae_ L,us U⟩ a w) (hb:ae_ L l=some b) (hi:bg_ b.rows=true) :
  RelAt E C φ ⟨er_ l b.z b.rows σ,ae_ (px_ l b L),us U⟩ a w:=by
 have hmem:∀x c,ae_ (px_ l b L) x=some c→x≠l∧∃c',ae_ L x=some c'∧c=frzB l b.z b.rows c':=fun x c hc=>by
  rw[v8_]at hc
  split at hc
  ·cases hc
  rename_i hx
  obtain⟨c',h1,h2⟩:=Option.map_eq_some_iff.1 hc
  exact⟨hx,c',h1,h2.symm⟩
 have hS:∀g,C.S φ (ae_ L) g→C.S φ (ae_ (px_ l b L)) g:=fun g hg=>⟨hg.1,fun x c hc=>by obtain⟨_,c',h1,_⟩:=hmem x c hc;exact hg.2 x c' h1⟩
 have hk:KeepsW φ φ (C.S φ (ae_ L)) (C.S φ (ae_ (px_ l b L))) w w:=⟨fun _ _ h=>h,fun g hg _=>⟨hS g hg,rfl⟩,Nat.le_refl _,fun _ _ h=>h⟩
 have F:FrzOk φ (C.S φ (ae_ L)) (C.S φ (ae_ (px_ l b L))) w l b.z b.rows:=by
  refine⟨hS,⟨b.T,?_⟩,fun g hg=>?_⟩
  ·rcases h.mem l b hb with⟨h1,h2⟩|⟨g,arr,xs,h1,h2,h3,h4,hzz⟩|⟨g,es,ck,xs,h1,h2,h3,h4,h5⟩
   ·exact .inl ⟨h1,h2⟩
   ·exact .inr (.inl ⟨g,arr,xs,h1,h2,h3.keep hk,h4,hzz⟩)
   exact .inr (.inr ⟨g,es,ck,xs,h1,h2,h3,h4.keep hk,h5⟩)
  have hlt:g<w.heap.size:=(h.mem l b hb).lt hg
  refine⟨⟨?_,fun x c hc hx=>?_⟩,hlt⟩
  ·rcases h.own l b g hb hg with h1|h1
   ·exact .inl (C.sub g h1)
   exact .inr h1
  obtain⟨hxl,c',h1,_⟩:=hmem x c hc
  exact hxl (h.inj x l c' b g h1 hb hx hg)
 refine⟨h.defers,VRs.frz F h.slots,fun x c hc=>?_,fun x x' c c' g h1 h2 h3 h4=>?_,fun x c g h1 h3=>?_,h.used,h.phi0,h.frame,fun g cs hg=>(h.glob g cs hg).keep (φ':=fun _=>none) ⟨fun _ _ h=>h,fun g hg _=>⟨hS g hg,rfl⟩,Nat.le_refl _,fun _ _ h=>h⟩,h.lad⟩
 ·obtain⟨hx,c',h1,rfl⟩:=hmem x c hc
  rcases h.mem x c' h1 with⟨k1,k2⟩|⟨g,arr,xs,k1,k2,k3,k4,hzz⟩|⟨g,es,ck,xs,k1,k2,k3,k4,k5⟩
  ·exact .inl ⟨k1,by simp only[frzB,k2,im_]⟩
  ·exact .inr (.inl ⟨g,arr,xs,k1,k2,VRr.frz F k3,k4,hzz⟩)
  exact .inr (.inr ⟨g,es,ck,xs,k1,k2,k3,VRr.frz F k4,k5⟩)
 ·obtain⟨_,d,e1,_⟩:=hmem x c h1
  obtain⟨_,d',e2,_⟩:=hmem x' c' h2
  exact h.inj x x' d d' g e1 e2 h3 h4
 obtain⟨_,d,e1,_⟩:=hmem x c h1
 exact h.own x d g e1 h3
theorem AWp.frz {c:Code} {Q:Exit→St→Prop} {σ σ':List V} {L L':List (Nat × Blk)} {U:List Nat} {b:Blk} (l:Nat) (hb:ae_ L l=some b) (hi:bg_ b.rows=true) (h1:er_ l b.z b.rows σ=σ') (h2:px_ l b L=L') (h:AWp E C c Q ⟨σ',ae_ L',us U⟩):AWp E C c Q ⟨σ,ae_ L,us U⟩:=fun φ a w hr=>by
 subst h1 h2
 exact h φ a w (hr.frz hb hi)
theorem Can.frz {σ σ':List V} {L L':List (Nat × Blk)} {U:List Nat} {b:Blk} (l:Nat) (hb:ae_ L l=some b) (hi:bg_ b.rows=true) (h1:er_ l b.z b.rows σ=σ') (h2:px_ l b L=L'):Can E C ⟨σ,ae_ L,us U⟩ ⟨σ',ae_ L',us U⟩:=fun φ a w hr=>by
 subst h1 h2
 exact⟨φ,hr.frz hb hi⟩
/-! two names change places -/
def sw (l l' x:Nat):Nat:=if x=l then l' else if x=l' then l else x
theorem nq_ (l l' x:Nat):sw l l' (sw l l' x)=x:=by
 unfold sw
 by_cases h1:x=l
 ·subst h1;by_cases h2:l'=x<;>simp[h2]
 by_cases h2:x=l'
 ·subst h2;simp[h1]
 simp[h1,h2]
def swL (l l':Nat):List Nat:=(List.range 200).map (sw l l')
theorem dv_ {l l' x:Nat} (h:x<200):(swL l l').getD x 0=sw l l' x:=by
 simp[swL,List.getD_eq_getElem?_getD,h]
def swM (l l':Nat) (L:List (Nat × Blk)):List (Nat × Blk):=L.map fun p=>(sw l l' p.1,rnB (swL l l') p.2)
theorem aby_ (l l':Nat):∀(L:List (Nat × Blk)) (x:Nat),ae_ (swM l l' L) x=(ae_ L (sw l l' x)).map (rnB (swL l l'))
 |[],x=>rfl
 |(y,b)::r,x=>by
  have ih:=aby_ l l' r x
  simp only[swM,List.map_cons,ae_]at ih ⊢
  by_cases h:x=sw l l' y
  ·have h':sw l l' x=y:=by rw[h,nq_]
   rw[if_pos h,if_pos h'];rfl
  have h':¬sw l l' x=y:=fun e=>h (by rw[←e,nq_])
  rw[if_neg h,if_neg h'];exact ih
theorem Can.swap {σ σ':List V} {L L':List (Nat × Blk)} {U U':List Nat} (l l':Nat) (hl:10≤l) (hl':10≤l') (hb:l<200) (hb':l'<200) (hc:cls 200 σ=true) (hm:(L.all fun p=>decide (p.1<200)&&clr 200 p.2.rows)=true) (h1:rns (swL l l') σ=σ') (h2:swM l l' L=L') (h3:U.map (sw l l')=U') :
  Can E C ⟨σ,ae_ L,us U⟩ ⟨σ',ae_ L',us U'⟩:=fun φ a w hr=>by
 subst h1 h2 h3
 have hlen:(swL l l').length=200:=by simp[swL]
 have hφ:∀i,i<(swL l l').length→φ i=(fun x=>φ (sw l l' x)) ((swL l l').getD i 0):=fun i hi=>by
  rw[hlen]at hi
  rw[dv_ hi]
  simp only[nq_]
 have low:∀x,tc_ x=true→sw l l' x=x:=fun x hx=>by simp only[tc_,Bool.or_eq_true,decide_eq_true_eq]at hx;unfold sw;rw[if_neg (by omega),if_neg (by omega)]
 have hmem:∀x b,ae_ (swM l l' L) x=some b→∃b',ae_ L (sw l l' x)=some b'∧b=rnB (swL l l') b':=fun x b h=>by
  rw[aby_]at h
  obtain⟨b',k1,k2⟩:=Option.map_eq_some_iff.1 h
  exact⟨b',k1,k2.symm⟩
 have hS:∀g,C.S φ (ae_ L) g↔C.S (fun x=>φ (sw l l' x)) (ae_ (swM l l' L)) g:=fun g=>by
  simp only[Cx.S]
  refine and_congr_right fun _=>⟨fun hh x b hb=>?_,fun hh x b hb=>?_⟩
  ·obtain⟨b',k1,_⟩:=hmem x b hb
   exact hh _ b' k1
  have:=hh (sw l l' x) (rnB (swL l l') b) (by rw[aby_,nq_,hb];rfl)
  simpa only[nq_]using this
 have hk:∀ψ:Phi,KeepsW ψ ψ (C.S φ (ae_ L)) (C.S (fun x=>φ (sw l l' x)) (ae_ (swM l l' L))) w w:=fun ψ=>⟨fun _ _ h=>h,fun g hg _=>⟨(hS g).1 hg,rfl⟩,Nat.le_refl _,fun _ _ h=>h⟩
 have hLm:∀y b,ae_ L y=some b→y<200∧clr 200 b.rows=true:=fun y b h=>by
  have:∀(L:List (Nat × Blk)),ae_ L y=some b→(y,b)∈L:=by
   intro L
   induction L with
   |nil=>intro h;simp[ae_]at h
   |cons p r ih=>
    obtain⟨z,c⟩:=p
    intro h
    simp only[ae_]at h
    split at h
    ·rename_i e;subst e;cases h;exact List.mem_cons_self
    exact List.mem_cons_of_mem _ (ih h)
  have:=List.all_eq_true.1 hm _ (this L h)
  simpa using this
 refine⟨fun x=>φ (sw l l' x),hr.defers,((VRs.rn hφ (by rw[hlen];exact hc)).1 hr.slots).keep (hk _),fun x b hb=>?_,fun x x' b b' g h1 h2 h3 h4=>?_,fun x b g h1 h3=>?_,fun x hx=>?_,fun x y hx=>?_,hr.frame,fun g cs hg=>(hr.glob g cs hg).keep (hk _),hr.lad⟩
 ·obtain⟨b',k1,rfl⟩:=hmem x b hb
  obtain⟨k2,k3⟩:=hLm _ b' k1
  have:=(MR.rn (φ:=fun x=>φ (sw l l' x)) hφ (by rw[hlen];exact k2) (by rw[hlen];exact k3)).1 (hr.mem _ b' k1)
  rw[dv_ k2,nq_]at this
  exact this.keep (hk _) fun _ _=>rfl
 ·obtain⟨c,k1,_⟩:=hmem x b h1
  obtain⟨c',k2,_⟩:=hmem x' b' h2
  have:=hr.inj _ _ c c' g k1 k2 h3 h4
  rw[←nq_ l l' x,this,nq_]
 ·obtain⟨c,k1,_⟩:=hmem x b h1
  exact hr.own _ c g k1 h3
 ·have:=hr.used _ hx
  simp only[us,Bool.or_eq_true,decide_eq_true_eq,List.contains_eq_mem,List.mem_map]at this ⊢
  rcases this with h|h
  ·left
   have e:sw l l' (sw l l' x)=sw l l' x:=low _ (by simp only[tc_,Bool.or_eq_true,decide_eq_true_eq];exact h)
   rw[nq_]at e
   rw[←e]at h;exact h
  exact .inr ⟨_,h,nq_ _ _ _⟩
 have hx10:=C.low x (by rw[hx];simp)
 simp only[low x hx10]
 exact hr.phi0 x y hx
end
end
section
open Go.RowKit
section
variable {E:Env} {C:Cx} {φ:Phi} {s:St} {a:Act} {w:World}
theorem VR.own {S:Nat→Prop} {x:Value} {l z:Nat} (h:VR φ S w (.sl true []) x):VR φ S w (.ow l z 0 0) x:=by
 simp only[VR]at h ⊢
 obtain⟨A,c,z',xs,h1,h2,h3,h4,h5⟩:=h
 exact⟨A,c,h1,h2,h3,.inl (h4 trivial)⟩
theorem Can.ownSlot {σ:List V} {L L':List (Nat × Blk)} {U:List Nat} (t l T z:Nat) (hl:us U l=false) (ht:σ.getD t .no = .sl true []) (hL:xk_ L l ⟨T,z,[]⟩=L'):Can E C ⟨σ,ae_ L,us U⟩ ⟨σ.set t (.ow l z 0 0),ae_ L',us (U++[l])⟩:=fun φ a w hr=>by
 subst hL
 have he:=hr.empty (l:=l) hl T z
 have e1:(⟨σ,upd (ae_ L) l (some ⟨T,z,[]⟩),fun x=>if x=l then true else us U x⟩:St)=⟨σ,ae_ (xk_ L l ⟨T,z,[]⟩),us (U++[l])⟩:=by
  apply St.ext'
  ·rfl
  ·exact ok_ L l _
  funext x
  show(if x=l then true else us U x)=us (U++[l]) x
  rw[←pv_]
  by_cases h:x=l<;>simp[h]
 dsimp only at he
 rw[e1]at he
 refine⟨_,he.defers,?_,he.mem,he.inj,he.own,he.used,he.phi0,he.frame,he.glob,he.lad⟩
 have hv:=he.slot t
 dsimp only at hv
 rw[ht]at hv
 have:=he.slots.set t (VR.own (l:=l) (z:=z) hv)
 dsimp only at this ⊢
 rwa [show a.tmps.toList.set t (a.tmps.getD t undef)=a.tmps.toList by
  apply List.ext_getElem?
  intro i
  rw[List.getElem?_set]
  split
  ·rename_i e
   subst e
   split
   ·rename_i h
    rw[List.getElem?_eq_getElem h,Array.getD_eq_getD_getElem?,Array.getElem?_eq_getElem (by simpa using h)]
    simp
   rename_i h
   rw[List.getElem?_eq_none (by omega)]
  rfl]at this
end
end
section
open Go.RowKit
section
variable {E:Env} {s:St} {o:Oper}
def a0_ {f:FuncId} {vs rs:List V} (p:Prop) (A:p→ACall E f vs [] rs []):CallC E where
 ef:=fun _ _=>{ v:=if_ rs }
 ob:=fun o s=>pcB E o s=true∧oy_ E f vs o s∧bu_ vs=true∧bu_ rs=true∧p
 ok:=fun o s ⟨h1,h2,h3,h4,h5⟩=>(ab_ (A h5)).ok o s ⟨h1,h2,h3,h4⟩
def ajg_ {f:FuncId} {vs rs:List V} (p:Prop) (A:p→ACall E f vs [] rs []):CallC E where
 ef:=fun o s=>{ v:=if_ rs,rd:=(ada_ E o s).flatMap cc_ }
 ob:=fun o s=>pcB E o s=true∧u1_ E f vs o s∧sk_ rs=true∧cls 0 vs=true∧p
 ok:=fun o s ⟨h1,h2,h3,h4,h5⟩=>(kv_ (A h5)).ok o s ⟨h1,h2,h3,h4⟩
def fo_ {f:FuncId} {vs rs:List V} {L0 Lr:List Blk} (η x:List Nat) (p:Prop) (A:p→ACall E f vs L0 rs Lr):CallC E where
 ef:=fun _ _=>ez_ η (η++x) rs Lr
 ob:=fun o s=>pcB E o s=true∧oy_ E f (rns η vs) o s∧aw_ s.m η η L0∧(η++x).length=Lr.length∧(η++x).Nodup∧cls η.length vs=true∧a5_ η.length L0=true∧cls (η++x).length rs=true∧a5_ (η++x).length Lr=true∧p
 ok:=fun o s ⟨h1,h2,h3,h4,h5,h6,h7,h8,h9,h10⟩=>(at_ η x (A h10)).ok o s ⟨h1,h2,h3,h4,h5,h6,h7,h8,h9⟩
end
section
variable {E:Env} {C:Cx} {s:St} {o:Oper} {Q:Exit→St→Prop}
def unB:V:=.q fun x=>∃t,x = .bool t
theorem anr_:dg_ unB=true:=rfl
theorem apl_:peel unB=unB:=rfl
theorem AWp.condQ {c:Operand} {x y:Code} (hc:s.pv E c=unB) (hp:dg_ (s.ev E c)=true) (h1:AWp E C x Q s) (h0:AWp E C y Q s):AWp E C (.cond c x y) Q s:=fun φ a w hr=>by
 have:=hr.pv hp
 rw[hc]at this
 simp only[unB,VR]at this
 obtain⟨⟨t,ht⟩, -⟩:=this
 refine wp_cond ht ?_
 cases t
 ·exact h0 φ a w hr
 exact h1 φ a w hr
theorem alo_:∀(σ:List V) (t:Nat) (v:V),leV (σ.getD t .no) v→les σ (σ.set t v)
 |[],_,_,_=>by simp only[List.set_nil,les]
 |u::σ,0,v,h=>by simp only[List.getD_cons_zero]at h;simp only[List.set_cons_zero,les];exact⟨h,fu_ σ⟩
 |u::σ,t+1,v,h=>by simp only[List.getD_cons_succ]at h;simp only[List.set_cons_succ,les];exact⟨fv_ u,alo_ σ t v h⟩
theorem Can.slotLe {σ σ':List V} {m:Mem} {u:Nat→Bool} (t:Nat) (v:V) (h:leV (σ.getD t .no) v) (h1:σ.set t v=σ'):Can E C ⟨σ,m,u⟩ ⟨σ',m,u⟩:=fun φ a w hr=>by
 subst h1
 exact⟨φ,hr.defers,hr.slots.le (alo_ σ t v h),hr.mem,hr.inj,hr.own,hr.used,hr.phi0,hr.frame,hr.glob,hr.lad⟩
theorem a3b_ {t t' el z y:Nat} {zc:List V} {x:Operand} {k:Bool} {rows:List (List V)} (hp:PC E o s) (ho:o.op = .binOp .eql t x (.const (.slice none 0 0)) t') (ht:(ax_ E.P t).map (·.k)=some (.sl el z y zc)) (hx:s.pv E x = .sl k rows) (hne:rows.head?≠some []) :
  Op1 E o s { v:=match rows with|[]=>unB|_=>.b false }:=
 Op1.pure fun s' h1 _ C φ a w hr=>by
  have hxo:x∈o.op.operands:=by simp[ho,Op.operands]
  have k1:VR φ (C.S φ s'.m) w (s.pv E x) (a.eval x):=by
   have:=hr.pv (x:=x) (by rw[h1 x hxo];exact hp x hxo)
   unfold St.pv at this ⊢
   rwa [h1 x hxo]at this
  rw[hx]at k1
  simp only[VR]at k1
  obtain⟨A,c,z',xs,e1,e2,e3,e4,e5,e6⟩:=k1
  obtain⟨hu,_⟩:=db_ ht
  have hrun:=Lib.run_eql_slice_nil (P:=E.P) w t el A rows.length c 0 0 hu
  have he:a.eval (.const (.slice none 0 0)) = .slice none 0 0:=rfl
  refine⟨.bool A.isNone,by simp[execOp,ho,e1,he,j5_ .eql t x (.const (.slice none 0 0)) (.slice A rows.length c) (.slice none 0 0) E.P w (by simp) (by simp),hrun],?_⟩
  cases rows with
  |nil=>simp only[unB,VR];exact⟨⟨_,rfl⟩,rfl⟩
  |cons r rs=>
   simp only[VRr]at e6
   obtain⟨ys,zs,rfl,_,h2,_⟩:=e6
   have hr1:r≠[]:=fun e=>hne (by rw[e];rfl)
   have:ys≠[]:=fun e=>hr1 (List.eq_nil_of_length_eq_zero (by rw[←h2.len,e];rfl))
   obtain⟨g,p,rfl,_⟩:=e5 (by simp[this])
   simp only[VR,Option.isNone_some]
def nilV (v:V):V:=match v with|.sl _ []=>unB|.sl _ _=>.b false|_=>.no
def nilO (E:Env):CallC E where
 ef:=fun o s=>match o.op with
  |.binOp .eql _ x _ _=>{ v:=nilV (s.pv E x) }
  |_=>{ v:=.no }
 ob:=fun o s=>pcB E o s=true∧match o.op with
  |.binOp .eql t x (.const (.slice none 0 0)) _=>(jk_ E.P t).isSome=true∧match s.pv E x with|.sl _ rows=>rows.head?≠some []|_=>False
  |_=>False
 ok:=fun o s ⟨h1,h2⟩=>by
  obtain⟨dst,op,ty,pos,after,guard⟩:=o
  split at h2
  ·rename_i t x t' ho
   dsimp only at ho
   subst ho
   obtain⟨h3,h4⟩:=h2
   dsimp only
   cases ht:jk_ E.P t with
   |none=>simp[ht]at h3
   |some p=>
    obtain⟨el,z,y,zc⟩:=p
    generalize hx:s.pv E x=vx at h4
    cases vx<;>try exact h4.elim
    rename_i k rows
    have:=a3b_ (s:=s) (a4_ h1) rfl (g5_ ht) hx h4
    cases rows with
    |nil=>exact this
    |cons r rs=>exact this
  exact h2.elim
end
theorem ym_:∀a b:List (List V),bg_ (a++b)=(bg_ a&&bg_ b)
 |[],b=>by simp only[List.nil_append,bg_,Bool.true_and]
 |x::a,b=>by simp only[List.cons_append,bg_,ym_ a b,Bool.and_assoc]
def fi_ (l:List (List V)) (z:List V) (k:Nat):List (List V):=l.mapIdx fun i r=>if i<k then r else z
theorem mg_ (l:List (List V)) (z:List V) (k j:Nat):(fi_ l z k)[j]? = (l[j]?).map fun r=>if j<k then r else z:=by simp[fi_]
theorem gm_ (l:List (List V)) (z:List V) (k:Nat):(fi_ l z k).length=l.length:=by simp[fi_]
theorem it_ (l:List (List V)) (z:List V):fi_ l z 0=List.replicate l.length z:=by
 apply List.ext_getElem?;intro j
 rw[mg_,List.getElem?_replicate]
 rcases Nat.lt_or_ge j l.length with h|h
 ·rw[List.getElem?_eq_getElem h,if_pos h];simp
 rw[List.getElem?_eq_none h,if_neg (by omega)];rfl
theorem kj_ {l:List (List V)} {z:List V} {k:Nat} (h:l.length≤k):fi_ l z k=l:=by
 apply List.ext_getElem?;intro j
 rw[mg_]
 rcases Nat.lt_or_ge j l.length with h2|h2
 ·rw[List.getElem?_eq_getElem h2,Option.map_some,if_pos (by omega)]
 rw[List.getElem?_eq_none h2];rfl
theorem jf_ {l:List (List V)} {z:List V} {k:Nat} (h:k<l.length):(fi_ l z k).set k (l.getD k [])=fi_ l z (k+1):=by
 apply List.ext_getElem?;intro j
 rw[List.getElem?_set,mg_,mg_,gm_]
 by_cases e:k=j
 ·subst e
  rw[if_pos rfl,if_pos h,List.getElem?_eq_getElem h,Option.map_some,if_pos (by omega),List.getD_eq_getElem?_getD,List.getElem?_eq_getElem h];rfl
 rw[if_neg e]
 by_cases h2:j<k
 ·rw[show(fun r:List V=>if j<k then r else z)=fun r=>if j<k+1 then r else z from by funext r;rw[if_pos h2,if_pos (by omega)]]
 rw[show(fun r:List V=>if j<k then r else z)=fun r=>if j<k+1 then r else z from by funext r;rw[if_neg h2,if_neg (by omega)]]
theorem kx_:∀ {l:List (List V)},bg_ l=true↔∀r∈l,bu_ r=true
 |[]=>by simp[bg_]
 |x::l=>by simp only[bg_,Bool.and_eq_true,kx_ (l:=l),List.forall_mem_cons]
theorem qd_ {l:List (List V)} {z:List V} {k:Nat} {r:List V} (h:r∈fi_ l z k):r∈l∨r=z:=by
 obtain⟨j,hj⟩:=List.getElem?_of_mem h
 rw[mg_]at hj
 obtain⟨q,h1,h2⟩:=Option.map_eq_some_iff.1 hj
 split at h2
 ·exact .inl (h2 ▸ List.mem_of_getElem? h1)
 exact .inr h2.symm
theorem iq_ {l:List (List V)} {z:List V} {k:Nat} (h:bg_ l=true) (hz:bu_ z=true):bg_ (fi_ l z k)=true:=
 kx_.2 fun r hr=>by
  rcases qd_ hr with hr|rfl
  ·exact kx_.1 h r hr
  exact hz
theorem gb_ {E:Env} {f:FuncId} {fn:Func} {c:Code} {vs rs:List V} (hf:E.P.funcs[f]? = some fn) (hb:fn.body=some c) (hname:(fn.name== "runtime.NumGoroutine")=false)
  (h:∀S w (xs:Array Value),VRs (fun _=>none) S w vs xs.toList→(∀g cs,E.G g=some cs→VR (fun _=>none) S w (.rp cs) (.pointer (some ⟨g,0,none⟩)))→(∃B,E.H B w∧B≤w.heap.size)→
   Calls E.P f xs w fun e w'=>∃ys,e = .returned (ga_ ys)∧Below w.heap.size w w'∧VRs (fun _=>none) (fun g=>S g∨w.heap.size≤g) w' rs ys):ACall E f vs [] rs []:=by
 refine⟨fun args w=>?_,fun φ S w args hp=>?_⟩
 ·simp[callFunc,hf,hb]
  simpa using hname
 have hφ:φ=fun _=>none:=by
  funext l
  cases hh:φ l with
  |none=>rfl
  |some x=>have:=hp.low l (by rw[hh];simp);simp at this
 subst hφ
 obtain⟨B,b1,b2,_⟩:=hp.lad
 refine(h S w args hp.args hp.glob ⟨B,b1,b2⟩).mono fun e w' ⟨ys,h1,h2,h3⟩=>⟨ys,fun _=>none,h1,?_⟩
 refine⟨fun i hi=>by simp at hi,h3.keep ⟨fun _ _ h=>h,fun g hg _=>⟨⟨hg,fun l b hb=>by simp⟩,rfl⟩,Nat.le_refl _,fun _ _ h=>h⟩,fun i b hb=>by simp at hb,fun i g _ hg=>by simp at hg,fun i j g hi _ _ _=>by simp at hi,FrameW.below h2 _⟩
end
section
open Go.RowKit
theorem Can.leAt {E:Env} {C:Cx} {σ:List V} {L L':List (Nat × Blk)} {u:Nat→Bool} (l:Nat) (rows:List (List V)) {b:Blk} (hb:ae_ L l=some b) (h:ler b.rows rows) (h1:xk_ L l ⟨b.T,b.z,rows⟩=L'):Can E C ⟨σ,ae_ L,u⟩ ⟨σ,ae_ L',u⟩:=fun φ a w hr=>by
 subst h1
 rw[←ok_]
 have hm:∀x b',upd (ae_ L) l (some ⟨b.T,b.z,rows⟩) x=some b'→∃b0,ae_ L x=some b0∧∀S,MR φ S w x b0→MR φ S w x b':=fun x b' hx=>by
  by_cases e:x=l
  ·subst e
   rw[dd_]at hx;cases hx
   refine⟨b,hb,fun S hM=>?_⟩
   rcases hM with⟨k1,k2⟩|⟨g,arr,xs,k1,k2,k3,k4,hzz⟩|⟨g,es,ck,xs,k1,k2,k3,k4,k5⟩
   ·refine .inl ⟨k1,?_⟩
    rw[k2]at h
    cases rows with
    |nil=>rfl
    |cons r rs=>simp[ler]at h
   ·exact .inr (.inl ⟨g,arr,xs,k1,k2,k3.le h,k4,hzz⟩)
   exact .inr (.inr ⟨g,es,ck,xs,k1,k2,k3,k4.le h,k5⟩)
  rw[bs_ _ e]at hx;exact⟨b',hx,fun _ h=>h⟩
 have hS:C.S φ (upd (ae_ L) l (some ⟨b.T,b.z,rows⟩))=C.S φ (ae_ L):=by
  funext k
  simp only[Cx.S,wi_,eq_iff_iff]
  refine and_congr_right fun _=>⟨fun hh x b' hb'=>?_,fun hh x b' hb'=>?_⟩
  ·by_cases e:x=l
   ·subst e;exact hh x _ (dd_ _ _ _)
   exact hh x b' (by rw[bs_ _ e];exact hb')
  by_cases e:x=l
  ·subst e;exact hh x b hb
  rw[bs_ _ e]at hb';exact hh x b' hb'
 refine⟨φ,hr.defers,by dsimp only;rw[hS];exact hr.slots,fun x b' hx=>?_,fun x x' b1 b2 g h1 h2=>?_,fun x b1 g h1=>?_,hr.used,hr.phi0,hr.frame,fun g cs hg=>by dsimp only;rw[hS];exact hr.glob g cs hg,hr.lad⟩
 ·obtain⟨b0,k1,k2⟩:=hm x b' hx
  dsimp only
  rw[hS]
  exact k2 _ (hr.mem x b0 k1)
 ·obtain⟨c1,k1,_⟩:=hm x b1 h1
  obtain⟨c2,k2,_⟩:=hm x' b2 h2
  exact hr.inj x x' c1 c2 g k1 k2
 obtain⟨c1,k1,_⟩:=hm x b1 h1
 exact hr.own x c1 g k1
end
section
open Go.RowKit
def ifV (b:Bool):V:=.q fun x=>if b then x = .nilIface else ∃t p,x = .iface t p
theorem apk_ (b:Bool):peel (ifV b)=ifV b:=rfl
theorem anw_ (b:Bool):dg_ (ifV b)=true:=rfl
theorem aqa_ (b:Bool):(ifV b).pure=true:=rfl
theorem ap6_ (b:Bool):(ifV b).flat=true:=rfl
theorem a1s_ (η:List Nat) (b:Bool):rn η (ifV b)=ifV b:=by simp only[ifV,rn]
theorem aw0_ (u:Nat→Bool) (b:Bool):V.inn u (ifV b)=true:=by simp only[ifV,V.inn]
theorem a2m_ (k:Nat) (b:Bool):V.cl k (ifV b)=true:=by simp only[ifV,V.cl]
section
variable {E:Env} {s:St} {o:Oper}
theorem ary_ {t t':TypeId} {x:Operand} {b:Bool} (hp:PC E o s) (ho:o.op = .binOp .eql t x (.const .nilIface) t') (ht:E.P.underlying t=some (.interface (E.P.methodsAt t))) (hx:s.pv E x=ifV b):Op1 E o s { v:=.b b }:=
 Op1.pure fun s' h1 _ C φ a w hr=>by
  have hxo:x∈o.op.operands:=by simp[ho,Op.operands]
  have k1:VR φ (C.S φ s'.m) w (s.pv E x) (a.eval x):=by
   have:=hr.pv (x:=x) (by rw[h1 x hxo];exact hp x hxo)
   unfold St.pv at this ⊢
   rwa [h1 x hxo]at this
  rw[hx]at k1
  simp only[ifV,VR]at k1
  replace k1:=k1.1
  have he:a.eval (.const .nilIface) = .nilIface:=rfl
  refine⟨.bool b,?_,by simp only[VR]⟩
  cases b with
  |true=>
   simp only[if_true]at k1
   have hrun:=run_eql_nil_nil (P:=E.P) w t ht
   have hg:(eqGuard .eql t x (.const .nilIface) .nilIface .nilIface).run E.P w = .ok () w:=by simp[eqGuard]
   simp[execOp,ho,k1,he,hrun,hg]
  |false=>
   simp only[Bool.false_eq_true,if_false]at k1
   obtain⟨tt,p,k1⟩:=k1
   have hrun:=run_eql_held_nil (P:=E.P) w t tt p ht
   have hg:(eqGuard .eql t x (.const .nilIface) (.iface tt p) .nilIface).run E.P w = .ok () w:=by simp[eqGuard]
   simp[execOp,ho,k1,he,hrun,hg]
def ifO (E:Env) (t:TypeId) (b:Bool) (ht:E.P.underlying t=some (.interface (E.P.methodsAt t))):CallC E where
 ef:=fun _ _=>{ v:=.b b }
 ob:=fun o s=>pcB E o s=true∧match o.op with
  |.binOp .eql t' x (.const .nilIface) _=>t'=t∧s.pv E x=ifV b
  |_=>False
 ok:=fun o s ⟨h1,h2⟩=>by
  obtain⟨dst,op,ty,pos,after,guard⟩:=o
  split at h2
  ·rename_i t1 x t2 ho
   dsimp only at ho
   subst ho
   obtain⟨rfl,h4⟩:=h2
   exact ary_ (a4_ h1) rfl ht h4
  exact h2.elim
theorem ay7_ {x y z:Operand} {k:IntKind} {p q r:Int} {ts:Array TypeId} (hp:PC E o s) (ho:o.op = .call { callee:=.builtin .max,args:=#[x,y,z],argTypes:=ts }) (hx:s.pv E x = .i k p) (hy:s.pv E y = .i k q) (hz:s.pv E z = .i k r) :
  Op1 E o s { v:=.i k (if r > (if q > p then q else p)then r else if q > p then q else p) }:=by
 refine Op1.pure' hp fun φ S w ρ hr _=>?_
 have h1:=hr x (by simp[ho,Op.operands,Call.operands])
 have h2:=hr y (by simp[ho,Op.operands,Call.operands])
 have h3:=hr z (by simp[ho,Op.operands,Call.operands])
 rw[hx]at h1;rw[hy]at h2;rw[hz]at h3
 simp only[VR]at h1 h2 h3
 exact⟨_,by simp[execOp,ho,h1,h2,h3,resolve,invoke,builtin,Builtin.max_,Builtin.max2];rfl,by simp only[VR]⟩
def maxO (E:Env):CallC E where
 ef:=fun o s=>match o.op with
  |.call { callee:=.builtin .max,args:=a0s,.. }=>match a0s.toList with
   |[x,y,z]=>match s.pv E x,s.pv E y,s.pv E z with
    |.i k p,.i _ q,.i _ r=>{ v:=.i k (if r > (if q > p then q else p)then r else if q > p then q else p) }
    |_,_,_=>{ v:=.no }
   |_=>{ v:=.no }
  |_=>{ v:=.no }
 ob:=fun o s=>pcB E o s=true∧match o.op with
  |.call { callee:=.builtin .max,args:=a0s,.. }=>match a0s.toList with
   |[x,y,z]=>or_ (s.pv E x) (s.pv E y)∧or_ (s.pv E y) (s.pv E z)
   |_=>False
  |_=>False
 ok:=fun o s ⟨h1,h2⟩=>by
  obtain⟨dst,op,ty,pos,after,guard⟩:=o
  dsimp only at h2 ⊢
  split at h2
  ·rename_i a0s ts u
   split at h2
   ·rename_i x y z e
    obtain⟨h3,h4⟩:=h2
    have e2:a0s=#[x,y,z]:=by apply Array.ext';simpa using e
    subst e2
    cases hx:s.pv E x<;>cases hy:s.pv E y<;>simp only[hx,hy,or_]at h3
    cases hz:s.pv E z<;>simp only[hy,hz,or_]at h4
    subst h3;subst h4
    exact ay7_ (a4_ h1) rfl hx hy hz
   exact h2.elim
  exact h2.elim
end
end
section
open Go.RowKit
def mR (L:List (Int × Int)):List (List V):=L.map fun p=>[.i .i64 p.1,.i .i64 p.2]
def lu_:List (Int × Int)→Int→Option Int
 |[],_=>none
 |(a,b)::r,k=>if k=a then some b else lu_ r k
def nl_:List (Int × Int)→Int→Int→List (Int × Int)
 |[],k,v=>[(k,v)]
 |(a,b)::r,k,v=>if k=a then(a,v)::r else(a,b)::nl_ r k v
theorem alq_:∀L,bg_ (mR L)=true
 |[]=>rfl
 |_::r=>by show(bu_ [_,_]&&bg_ (mR r))=true;rw[alq_ r];rfl
def mC (p:Int × Int):Value × Value:=(.int .i64 p.1,.int .i64 p.2)
theorem uq_ {φ:Phi} {S:Nat→Prop} {w:World}:∀ {L:List (Int × Int)} {xs:List Value},VRr φ S w 2 (mR L) xs→xs=L.flatMap fun p=>[.int .i64 p.1,.int .i64 p.2]
 |[],xs,h=>by simp only[mR,List.map_nil,VRr]at h;simpa using h
 |p::L,xs,h=>by
  simp only[mR,List.map_cons,VRr,VRs,VR]at h
  obtain⟨ys,zs,rfl,_,⟨x,r,rfl,rfl,y,r',rfl,rfl,rfl⟩,_,h5⟩:=h
  rw[uq_ (L:=L) h5];rfl
theorem al7_ {φ:Phi} {S:Nat→Prop} {w:World}:∀L:List (Int × Int),VRr φ S w 2 (mR L) (L.flatMap fun p=>[.int .i64 p.1,.int .i64 p.2])
 |[]=>by simp[mR,VRr]
 |p::L=>by
  have h1:VR φ S w (.i .i64 p.1) (.int .i64 p.1):=by simp only[VR]
  have h2:VR φ S w (.i .i64 p.2) (.int .i64 p.2):=by simp only[VR]
  have:=VRr.cons (z:=2) (r:=[.i .i64 p.1,.i .i64 p.2]) rfl (VRs.cons h1 (VRs.cons h2 VRs.nil)) (by intro u hu;simp at hu;rcases hu with rfl|rfl<;>rfl) (al7_ (φ:=φ) (S:=S) (w:=w) L)
  simpa[mR]using this
theorem abz_:∀ {es:List MapEntry} {L:List (Int × Int)},(es.flatMap fun e=>[e.key,e.val])=(L.flatMap fun p=>[.int .i64 p.1,.int .i64 p.2])→es.map (fun e=>(e.key,e.val))=L.map mC
 |[],[],_=>rfl
 |[],p::L,h=>by simp at h
 |e::es,[],h=>by simp at h
 |e::es,p::L,h=>by
  simp only[List.flatMap_cons,List.cons_append,List.nil_append,List.cons.injEq]at h
  simp only[List.map_cons,abz_ h.2.2,mC,h.1,h.2.1]
theorem ud_:∀ {es:List MapEntry} {L:List (Int × Int)},es.map (fun e=>(e.key,e.val))=L.map mC→(es.flatMap fun e=>[e.key,e.val])=(L.flatMap fun p=>[.int .i64 p.1,.int .i64 p.2])
 |[],[],_=>rfl
 |[],p::L,h=>by simp at h
 |e::es,[],h=>by simp at h
 |e::es,p::L,h=>by
  simp only[List.map_cons,List.cons.injEq,mC,Prod.mk.injEq]at h
  simp only[List.flatMap_cons,ud_ h.2,h.1.1,h.1.2]
theorem r8_ {k:Int}:∀ {es:List MapEntry} {L:List (Int × Int)} (i:Nat),es.map (fun e=>(e.key,e.val))=L.map mC→
  (lu_ L k=none∧Instr.findNow (.int .i64) (.int .i64 k) es i=some none∧∀v,nl_ L k v=L++[(k,v)])∨
  ∃j b,lu_ L k=some b∧Instr.findNow (.int .i64) (.int .i64 k) es i=some (some (i+j,.int .i64 b))∧L[j]? = some (k,b)∧∀v,nl_ L k v=L.set j (k,v)
 |[],[],i,_=>.inl ⟨rfl,rfl,fun _=>rfl⟩
 |[],p::L,i,h=>by simp at h
 |e::es,[],i,h=>by simp at h
 |e::es,(a,b)::L,i,h=>by
  simp only[List.map_cons,List.cons.injEq,mC,Prod.mk.injEq]at h
  obtain⟨⟨h1,h2⟩,h3⟩:=h
  by_cases hk:k=a
  ·subst hk
   exact .inr ⟨0,b,by simp[lu_],by simp[Instr.findNow,Instr.sameNow,h1,h2],by simp,fun v=>by simp[nl_]⟩
  rcases r8_ (k:=k) (i+1) h3 with⟨q1,q2,q3⟩|⟨j,c,q1,q2,q3,q4⟩
  ·exact .inl ⟨by simp[lu_,hk,q1],by simp only[Instr.findNow,Instr.sameNow,h1,if_true,beq_eq_false_iff_ne.2 hk];exact q2,fun v=>by simp[nl_,hk,q3]⟩
  exact .inr ⟨j+1,c,by simp[lu_,hk,q1],by simp only[Instr.findNow,Instr.sameNow,h1,if_true,beq_eq_false_iff_ne.2 hk];rw[q2,show i+1+j=i+(j+1) by omega],by simpa using q3,fun v=>by simp[nl_,hk,q4]⟩
section
variable {E:Env} {C:Cx} {φ:Phi} {s:St} {a:Act} {w w':World} {o:Oper}
theorem RelAt.writeM (h:RelAt E C φ s a w) {l:Nat} {b:Blk} (hb:s.m l=some b) {g:Nat} (hg:φ l=some (some g)) {rows:List (List V)} {xs:List Value} {es es':Array MapEntry} {ck ck':Nat}
  (ha:w.heap[g]? = some (.map es ck)) (hz:b.z=0) (hw:w'.heap[g]? = some (.map es' ck')) (hsame:∀k,k≠g→w'.heap[k]? = w.heap[k]?) (hhs:w'.heap.size=w.heap.size)
  (hos:w'.os=w.os∧w'.tape=w.tape∧w'.output=w.output)
  (hr:VRr φ (C.S φ s.m) w 2 rows xs) (hx:xs=aqw_ es'):RelAt E C φ ⟨s.σ,upd s.m l (some { b with rows:=rows }),s.u⟩ a w':=by
 have hS:C.S φ (upd s.m l (some { b with rows:=rows }))=C.S φ s.m:=by
  funext k
  simp only[Cx.S,wi_,eq_iff_iff]
  refine and_congr_right fun _=>⟨fun hh x b' hb'=>?_,fun hh x b' hb'=>?_⟩
  ·by_cases e:x=l
   ·subst e;exact hh x _ (dd_ _ _ _)
   exact hh x b' (by rw[bs_ _ e];exact hb')
  by_cases e:x=l
  ·subst e;exact hh x b hb
  rw[bs_ _ e]at hb';exact hh x b' hb'
 have hset:∀k,C.S φ s.m k→k<w.heap.size→C.S φ (upd s.m l (some { b with rows:=rows })) k∧w'.heap[k]? = w.heap[k]?:=fun k hk _=>
  ⟨by rw[hS];exact hk,hsame k (fun e=>hk.2 l b hb (by rw[e];exact hg))⟩
 have hfr:FrameW (fun k=>k=g) w w':=⟨hos.1,hos.2.1,hos.2.2,by omega,fun k _ hk=>hsame k hk,fun k x hx=>by
  by_cases e:k=g
  ·subst e
   simp[World.shape?,ha]at hx
  rw[fx_ (hsame k e)];exact hx⟩
 refine h.step (fun _ _ h=>h) h.used hset hfr (fun k hk=>by subst hk;exact h.own l b k hb hg) (fun x b' hb'=>?_) (fun x x' b1 b2 k h1 h2 h3 h4=>?_) (fun x b1 k h1 h3=>?_)
 ·by_cases e:x=l
  ·subst e
   rw[dd_]at hb';cases hb'
   refine .inr (.inr (.inr ⟨g,es',ck',xs,hg,hw,hz,?_,hx⟩))
   have hk:=h.keeps (fun _ _ h=>h) hset hfr
   exact hr.keep hk
  rw[bs_ _ e]at hb'
  exact .inl ⟨hb',fun k hk=>hsame k (fun e'=>e (h.inj x l b' b g hb' hb (by rw[←e'];exact hk) hg))⟩
 ·have f:∀y c,upd s.m l (some { b with rows:=rows }) y=some c→∃c',s.m y=some c':=fun y c hy=>by
   by_cases e:y=l
   ·subst e;exact⟨b,hb⟩
   rw[bs_ _ e]at hy;exact⟨c,hy⟩
  obtain⟨c1,h1⟩:=f _ _ h1
  obtain⟨c2,h2⟩:=f _ _ h2
  exact h.inj x x' c1 c2 k h1 h2 h3 h4
 by_cases e:x=l
 ·subst e;exact h.own x b k hb h3
 rw[bs_ _ e]at h1;exact h.own x b1 k h1 h3
theorem RelAt.newM (h:RelAt E C φ s a w) {l:Nat} (hl:s.u l=false) (T:TypeId) :
  RelAt E C (fun x=>if x=l then some (some w.heap.size)else φ x) ⟨s.σ,upd s.m l (some ⟨T,0,[]⟩),fun x=>if x=l then true else s.u x⟩ a (w.alloc (.map #[] 0)):=by
 have hn:φ l=none:=by
  cases hh:φ l with
  |none=>rfl
  |some x=>have:=h.used l (by rw[hh];simp);rw[hl]at this;cases this
 have hphi:∀x y,φ x=some y→(fun x=>if x=l then some (some w.heap.size)else φ x) x=some y:=fun x y hxy=>by
  by_cases e:x=l
  ·subst e;rw[hn]at hxy;cases hxy
  simpa[e]using hxy
 have hset:∀g,C.S φ s.m g→g<w.heap.size→C.S (fun x=>if x=l then some (some w.heap.size)else φ x) (upd s.m l (some ⟨T,0,[]⟩)) g∧(w.alloc (.map #[] 0)).heap[g]? = w.heap[g]?:=fun g hg hlt=>by
  refine⟨⟨hg.1,fun x b hb=>?_⟩,Below.heap_alloc w _ g hlt⟩
  by_cases e:x=l
  ·subst e;simp only[if_pos];intro hh;cases hh;exact absurd hlt (Nat.lt_irrefl _)
  rw[bs_ _ e]at hb;simp only[e,if_false];exact hg.2 x b hb
 have hfr:=FrameW.alloc (fun _=>False) w (.map #[] 0)
 refine h.step hphi (fun x hx=>?_) hset hfr (fun _ h=>h.elim) (fun x b hb=>?_) (fun x x' b b' g hb hb' hg hg'=>?_) (fun x b g hb hg=>?_)
 ·by_cases e:x=l
  ·simp[e]
  simp only[e,if_false]at hx ⊢;exact h.used x hx
 ·by_cases e:x=l
  ·subst e
   rw[dd_]at hb;cases hb
   exact .inr (.inr (.inr ⟨w.heap.size,#[],0,[],by simp,heap_alloc_new w _,rfl,VRr.nil,rfl⟩))
  rw[bs_ _ e]at hb
  exact .inl ⟨hb,fun g hg=>Below.heap_alloc w _ g ((h.mem x b hb).lt hg)⟩
 ·by_cases e:x=l<;>by_cases e':x'=l
  ·rw[e,e']
  ·subst e
   rw[bs_ _ e']at hb'
   simp only[if_pos,e',if_false]at hg hg'
   cases hg
   exact absurd ((h.mem x' b' hb').lt hg') (Nat.lt_irrefl _)
  ·subst e'
   rw[bs_ _ e]at hb
   simp only[if_pos,e,if_false]at hg hg'
   cases hg'
   exact absurd ((h.mem x b hb).lt hg) (Nat.lt_irrefl _)
  rw[bs_ _ e]at hb;rw[bs_ _ e']at hb'
  simp only[e,e',if_false]at hg hg'
  exact h.inj x x' b b' g hb hb' hg hg'
 by_cases e:x=l
 ·subst e;simp only[if_pos]at hg;cases hg;exact .inr h.frame.size
 rw[bs_ _ e]at hb;simp only[e,if_false]at hg;exact h.own x b g hb hg
def newE (l T:Nat):Eff:={ v:=.pt l 0 0 0,wr:=[(l,some ⟨T,0,[]⟩)],nw:=[l] }
theorem azd_ {t:TypeId} {l T:Nat} (ho:o.op = .makeMap t none):Op1 E o s (newE l T):=
 Op1.of fun s' _ _ e3 C φ a w hr=>by
  have hrun:(execOp a.eval o).run E.P w = .ok (.value (.map (some w.heap.size))) (w.alloc (.map #[] 0)):=by
   simp[execOp,ho,run_makeMap]
  refine⟨_,_,_,.inl hrun,by simp only[newE];rw[f0_];exact hr.newM (e3 l (by simp[newE])) T,?_⟩
  simp only[newE,VR]
  exact⟨w.heap.size,by simp,by rw[Nat.zero_mul];rfl⟩
def rp_ (l:Nat) (b:Blk) (L:List (Int × Int)) (k v:Int):Eff:={ v:=.no,wr:=[(l,some ⟨b.T,0,mR (nl_ L k v)⟩)],rd:=[l] }
theorem axp_ {t kt et:TypeId} {x y z:Operand} {l T:Nat} {L:List (Int × Int)} {k v:Int} (hp:PC E o s) (ho:o.op = .mapUpdate t x y z) (ht:E.P.underlying t=some (.map kt et)) (hkt:E.P.underlying kt=some (.int .i64))
  (hx:s.pv E x = .pt l 0 0 0) (hy:s.pv E y = .i .i64 k) (hz:s.pv E z = .i .i64 v) (hm:s.m l=some ⟨T,0,mR L⟩):Op1 E o s (rp_ l ⟨T,0,mR L⟩ L k v):=by
 have ox:x∈o.op.operands:=by simp[ho,Op.operands]
 have oy:y∈o.op.operands:=by simp[ho,Op.operands]
 have oz:z∈o.op.operands:=by simp[ho,Op.operands]
 have hpx:=hp x ox
 have hpy:=hp y oy
 have hpz:=hp z oz
 refine Op1.of fun s' e1 e2 e3 C φ a w hr=>?_
 have h1:=hr.pv (x:=x) (by rw[e1 x ox];exact hpx)
 have h2:=hr.pv (x:=y) (by rw[e1 y oy];exact hpy)
 have h3:=hr.pv (x:=z) (by rw[e1 z oz];exact hpz)
 have e1x:s'.pv E x=s.pv E x:=by unfold St.pv;rw[e1 x ox]
 have e1y:s'.pv E y=s.pv E y:=by unfold St.pv;rw[e1 y oy]
 have e1z:s'.pv E z=s.pv E z:=by unfold St.pv;rw[e1 z oz]
 rw[e1x,hx]at h1;rw[e1y,hy]at h2;rw[e1z,hz]at h3
 simp only[VR]at h1 h2 h3
 obtain⟨g,g1,g2⟩:=h1
 rw[ag2_]at g2
 have hb:s'.m l=some ⟨T,0,mR L⟩:=by rw[e2 l (by simp[rp_])];exact hm
 rcases hr.mem l _ hb with⟨m1,_⟩|⟨g',arr,xs,m1,m2,m3,m4,hzz⟩|⟨g',es,ck,xs,m1,m2,m3,m4,m5⟩
 ·rw[g1]at m1;cases m1
 ·exact absurd hzz (Nat.lt_irrefl _)
 rw[g1]at m1;cases m1
 have hx5:=uq_ m4
 have hce:=abz_ (by rw[←hx5,m5];rfl)
 have hc1:∀es',(Instr.checkKey es' 10000 kt (a.eval y)).run E.P w = .ok () w:=fun es'=>by rw[h2];exact Go.MapKept.run_checkKey hkt (by simp[Go.MapKept.IsKey]) es' 9999
 have fin:∀(es':Array MapEntry) (ck':Nat),(execOp a.eval o).run E.P w = .ok .skip { w with heap:=w.heap.setIfInBounds g (.map es' ck') }→es'.toList.map (fun e=>(e.key,e.val))=(nl_ L k v).map mC→
   ∃x w' φ',((execOp a.eval o).run E.P w = .ok (.value x) w'∨((execOp a.eval o).run E.P w = .ok .skip w'∧x=undef))∧RelAt E C φ' ⟨s'.σ,(rp_ l ⟨T,0,mR L⟩ L k v).mem s'.m,(rp_ l ⟨T,0,mR L⟩ L k v).use s'.u⟩ a w'∧VR φ' (C.S φ' ((rp_ l ⟨T,0,mR L⟩ L k v).mem s'.m)) w' (rp_ l ⟨T,0,mR L⟩ L k v).v x:=fun es' ck' hrun hes=>by
  obtain⟨q1,q2⟩:=Go.MapKept.heap_set (o':=Obj.map es' ck') m2
  have hwr:=hr.writeM (w':={ w with heap:=w.heap.setIfInBounds g (.map es' ck') }) hb g1 m2 rfl q1 q2 (by simp) ⟨rfl,rfl,rfl⟩ (al7_ (nl_ L k v)) (ud_ hes).symm
  refine⟨undef,_,φ,.inr ⟨hrun,rfl⟩,?_,by simp only[rp_,VR]⟩
  have q3:(rp_ l ⟨T,0,mR L⟩ L k v).mem s'.m=upd s'.m l (some ⟨T,0,mR (nl_ L k v)⟩):=by simp[rp_,Eff.mem]
  have q4:(rp_ l ⟨T,0,mR L⟩ L k v).use s'.u=s'.u:=by funext y;simp[rp_,Eff.use]
  rw[q3,q4]
  exact hwr
 rcases r8_ (k:=k) 0 hce with⟨r1,r2,r3⟩|⟨j,b,r1,r2,r3,r4⟩
 ·refine fin (es.push { key:=.int .i64 k,val:=.int .i64 v,born:=ck }) (ck+1) ?_ (by rw[r3];simp[hce,mC])
  simp[execOp,ho,Instr.mapUpdate,run_underlying ht,g2,Go.MapKept.run_getObj_map m2,hc1,h2,h3,Go.MapKept.run_findKey hkt r2,Go.MapKept.run_setObj_map _ m2,Go.MapKept.run_checkKey hkt (show Go.MapKept.IsKey (.int .i64) (.int .i64 k) by simp[Go.MapKept.IsKey])]
 have hj:j<es.size:=by
  have h9:=(List.getElem?_eq_some_iff.1 r3).1
  have h8:=congrArg List.length hce
  simp at h8;omega
 have hjk:es[j].key = .int .i64 k:=by
  have h8:=congrArg (fun l=>l[j]?) hce
  simp only[List.getElem?_map,r3,Option.map_some,mC,Array.getElem?_toList,Array.getElem?_eq_getElem hj]at h8
  simpa using congrArg Prod.fst (Option.some.inj h8)
 refine fin (es.modify j fun e=>{ e with key:=.int .i64 k,val:=.int .i64 v }) ck ?_ ?_
 ·simp[execOp,ho,Instr.mapUpdate,run_underlying ht,g2,Go.MapKept.run_getObj_map m2,hc1,h2,h3,Go.MapKept.run_findKey hkt r2,Go.MapKept.run_setObj_map _ m2,Go.MapKept.run_checkKey hkt (show Go.MapKept.IsKey (.int .i64) (.int .i64 k) by simp[Go.MapKept.IsKey]),Array.getElem?_eq_getElem hj,hjk,Go.MapKept.run_keyThatStays (d:=.int .i64) (k:=.int .i64 k) (by simp[Go.MapKept.IsKey])]
 rw[r4,List.map_set,←hce]
 apply List.ext_getElem?
 intro i
 simp only[List.getElem?_map,Array.getElem?_toList,Array.getElem?_modify,List.getElem?_set,List.length_map,Array.length_toList,mC]
 by_cases hij:j=i
 ·subst hij;simp[hj]
 simp[hij]
theorem awo_ {t kt et:TypeId} {x y:Operand} {l T:Nat} {L:List (Int × Int)} {k v:Int} (hp:PC E o s) (ho:o.op = .lookup t x y false) (ht:E.P.underlying t=some (.map kt et)) (hkt:E.P.underlying kt=some (.int .i64))
  (hx:s.pv E x = .pt l 0 0 0) (hy:s.pv E y = .i .i64 k) (hm:s.m l=some ⟨T,0,mR L⟩) (hv:lu_ L k=some v):Op1 E o s { v:=.i .i64 v,rd:=[l] }:=by
 refine Op1.pure' hp fun φ S w ρ hr hmm=>?_
 have h1:=hr x (by simp[ho,Op.operands])
 have h2:=hr y (by simp[ho,Op.operands])
 rw[hx]at h1;rw[hy]at h2
 simp only[VR]at h1 h2
 obtain⟨g,g1,g2⟩:=h1
 rw[ag2_]at g2
 rcases hmm l (by simp) _ hm with⟨m1,_⟩|⟨g',arr,xs,m1,m2,m3,m4,hzz⟩|⟨g',es,ck,xs,m1,m2,m3,m4,m5⟩
 ·rw[g1]at m1;cases m1
 ·exact absurd hzz (Nat.lt_irrefl _)
 rw[g1]at m1;cases m1
 have hx5:=uq_ m4
 have hce:=abz_ (by rw[←hx5,m5];rfl)
 rcases r8_ (k:=k) 0 hce with⟨r1,r2,r3⟩|⟨j,b,r1,r2,r3,r4⟩
 ·rw[hv]at r1;cases r1
 rw[hv]at r1;cases r1
 refine⟨.int .i64 v,?_,by simp only[VR]⟩
 simp[execOp,ho,Instr.lookup,run_underlying ht,g2,Go.MapKept.run_getObj_map m2,h2,Go.MapKept.run_findKey hkt r2,Go.MapKept.run_checkKey hkt (show Go.MapKept.IsKey (.int .i64) (.int .i64 k) by simp[Go.MapKept.IsKey])]
def az2_ (E:Env) (l:Nat):CallC E where
 ef:=fun _ _=>newE l 0
 ob:=fun o _=>match o.op with|.makeMap _ none=>True|_=>False
 ok:=fun o s h=>by
  obtain⟨dst,op,ty,pos,after,guard⟩:=o
  split at h
  ·rename_i t ho
   dsimp only at ho
   subst ho
   exact azd_ rfl
  exact h.elim
def az3_ (E:Env) (l:Nat) (L:List (Int × Int)) (t kt et:TypeId) (k v:Int) (ht:E.P.underlying t=some (.map kt et)) (hkt:E.P.underlying kt=some (.int .i64)):CallC E where
 ef:=fun _ _=>rp_ l ⟨0,0,mR L⟩ L k v
 ob:=fun o s=>pcB E o s=true∧match o.op with|.mapUpdate t' x y z=>t'=t∧s.pv E x = .pt l 0 0 0∧s.pv E y = .i .i64 k∧s.pv E z = .i .i64 v∧s.m l=some ⟨0,0,mR L⟩|_=>False
 ok:=fun o s ⟨h1,h2⟩=>by
  obtain⟨dst,op,ty,pos,after,guard⟩:=o
  split at h2
  ·rename_i t1 x y z ho
   dsimp only at ho
   subst ho
   obtain⟨rfl,h3,h4,h5,h6⟩:=h2
   exact axp_ (a4_ h1) rfl ht hkt h3 h4 h5 h6
  exact h2.elim
def a0n_ (E:Env) (l:Nat) (L:List (Int × Int)) (t kt et:TypeId) (k v:Int) (ht:E.P.underlying t=some (.map kt et)) (hkt:E.P.underlying kt=some (.int .i64)):CallC E where
 ef:=fun _ _=>{ v:=.i .i64 v,rd:=[l] }
 ob:=fun o s=>pcB E o s=true∧lu_ L k=some v∧match o.op with|.lookup t' x y false=>t'=t∧s.pv E x = .pt l 0 0 0∧s.pv E y = .i .i64 k∧s.m l=some ⟨0,0,mR L⟩|_=>False
 ok:=fun o s ⟨h1,hv,h2⟩=>by
  obtain⟨dst,op,ty,pos,after,guard⟩:=o
  split at h2
  ·rename_i t1 x y ho
   dsimp only at ho
   subst ho
   obtain⟨rfl,h3,h4,h6⟩:=h2
   exact awo_ (a4_ h1) rfl ht hkt h3 h4 h6 hv
  exact h2.elim
end
end
section
open Go.RowKit
theorem ACall.frz1 {E:Env} {f:FuncId} {vs rs rs':List V} {b:Blk} (A:ACall E f vs [] rs [b]) (h:er_ 0 b.z b.rows rs=rs'):ACall E f vs [] rs' []:=by
 refine⟨A.1,fun φ S w args hp=>(A.2 φ S w args hp).mono fun e w' ⟨xs,φr,he,P⟩=>⟨xs,φr,he,?_⟩⟩
 have hb:MR φr (SOf φr S w [b]) w' 0 b:=P.mem 0 b rfl
 have hsub:∀g,SOf φr S w [b] g→SOf φr S w [] g:=fun g hg=>⟨hg.1,fun i c hc=>by simp[lq_]at hc⟩
 have hk:KeepsW φr φr (SOf φr S w [b]) (SOf φr S w []) w' w':=⟨fun _ _ h=>h,fun g hg _=>⟨hsub g hg,rfl⟩,Nat.le_refl _,fun _ _ h=>h⟩
 have F:FrzOk φr (SOf φr S w [b]) (SOf φr S w []) w' 0 b.z b.rows:=⟨hsub,⟨b.T,hb.keep hk fun _ _=>rfl⟩,fun g hg=>⟨⟨.inr (P.new 0 g (Nat.le_refl _) hg),fun i c hc=>by simp[lq_]at hc⟩,hb.lt hg⟩⟩
 refine⟨fun i hi=>by simp at hi,?_,fun i c hc=>by simp at hc,fun i g hi hg=>P.new i g hi hg,fun i j g hi=>by simp at hi,P.frame⟩
 rw[←h];exact VRs.frz F P.res
end
section
open Go.RowKit
def intA:List V→Option (List Int)
 |[]=>some []
 |.i .i64 n::r=>(intA r).map (n::·)
 |_::_=>none
def pl_:V→Option (List Int)
 |.ag xs=>intA xs
 |_=>none
theorem y1_ {φ:Phi} {S:Nat→Prop} {w:World}:∀ {vs:List V} {xs:List Value} {l:List Int},VRs φ S w vs xs→intA vs=some l→xs=l.map (Value.int .i64)
 |[],xs,l,h,e=>by
  simp only[intA,Option.some.injEq]at e
  subst e
  simp only[VRs]at h
  subst h;rfl
 |v::vs,xs,l,h,e=>by
  simp only[VRs]at h
  obtain⟨x,r,rfl,h1,h2⟩:=h
  cases v<;>try(simp[intA]at e;done)
  rename_i k n
  cases k<;>try(simp[intA]at e;done)
  simp only[intA]at e
  obtain⟨l',e1,rfl⟩:=Option.map_eq_some_iff.1 e
  simp only[VR]at h1
  rw[h1,y1_ h2 e1];rfl
def ap3_ (P:Program) (t:TypeId) (n:Nat):Prop:=P.eqGuardType P.depth t=false∧∀(w:World) (xs ys:List Int),xs.length=n→ys.length=n→(Op.equalIn 10000 t (.agg (xs.map (Value.int .i64)).toArray) (.agg (ys.map (Value.int .i64)).toArray)).run P w = .ok (xs==ys) w
def cmpB:BinOp→Option (List Int)→Option (List Int)→Bool
 |.neq,a,b=>!(a==b)
 |_,a,b=>a==b
theorem wd_ {φ:Phi} {S:Nat→Prop} {w:World} {v:V} {x:Value} {l:List Int} (h:VR φ S w v x) (e:pl_ v=some l):x = .agg (l.map (Value.int .i64)).toArray:=by
 cases v<;>try(simp[pl_]at e;done)
 rename_i xs
 simp only[pl_]at e
 simp only[VR]at h
 obtain⟨ys,rfl,hy⟩:=h
 have:=y1_ hy e
 congr 1
 apply Array.ext';simpa using this
def cmpO (E:Env) (op:BinOp) (t:TypeId) (n:Nat) (H:ap3_ E.P t n):CallC E where
 ef:=fun o s=>match o.op with
  |.binOp _ _ x y _=>{ v:=.b (cmpB op (pl_ (s.pv E x)) (pl_ (s.pv E y))) }
  |_=>{ v:=.no }
 ob:=fun o s=>pcB E o s=true∧match o.op with
  |.binOp op' t' x y _=>op'=op∧t'=t∧(op = .eql∨op = .neq)∧(pl_ (s.pv E x)).map List.length=some n∧(pl_ (s.pv E y)).map List.length=some n
  |_=>False
 ok:=fun o s ⟨h1,h2⟩=>by
  obtain⟨dst,op0,ty,pos,after,guard⟩:=o
  split at h2
  ·rename_i op' t' x y t2 ho
   dsimp only at ho
   subst ho
   obtain⟨rfl,rfl,hop,hx,hy⟩:=h2
   obtain⟨xs,ex,lx⟩:=Option.map_eq_some_iff.1 hx
   obtain⟨ys,ey,ly⟩:=Option.map_eq_some_iff.1 hy
   refine Op1.pure' (a4_ h1) fun φ S w ρ hr _=>?_
   have k1:=wd_ (hr x (by simp[Op.operands])) ex
   have k2:=wd_ (hr y (by simp[Op.operands])) ey
   have hE:=H.2 w xs ys lx ly
   rw[ex,ey]
   rcases hop with rfl|rfl
   ·exact⟨.bool (xs==ys),by simp[execOp,k1,k2,run_eqGuard_agg w .eql _ x y _ _ H.1,run_eql_struct,hE,Result.andThen],by simp[VR,cmpB]⟩
   exact⟨.bool (!(xs==ys)),by simp[execOp,k1,k2,run_eqGuard_agg w .neq _ x y _ _ H.1,run_neq_struct,hE,Result.andThen],by simp[VR,cmpB]⟩
  exact h2.elim
end
section
open Go.RowKit
section
variable {E:Env} {C:Cx} {φ:Phi} {s:St} {o:Oper}
theorem ayn_ {x:Operand} {t el z y:Nat} {zc:List V} (hp:PC E o s) (ho:o.op = .call { callee:=.builtin .cap,args:=#[x],argTypes:=#[t] }) (ht:(ax_ E.P t).map (·.k)=some (.sl el z y zc)) (hx:s.pv E x = .sl true []):Op1 E o s { v:=.i .i64 0 }:=by
 refine Op1.pure' hp fun φ S w ρ hr _=>?_
 have h1:=hr x (by simp[ho,Op.operands,Call.operands])
 rw[hx]at h1;simp only[VR]at h1
 obtain⟨hu,_⟩:=db_ ht
 obtain⟨A,c,z,xs,h2,_,_,h3,_⟩:=h1
 have hc:c=0:=h3 trivial
 subst hc
 exact⟨_,by simp[execOp,ho,h2,resolve,invoke,builtin,Builtin.cap_,run_underlying hu];rfl,by simp[VR,goInt]⟩
def capO (E:Env):CallC E where
 ef:=fun _ _=>{ v:=.i .i64 0 }
 ob:=fun o s=>∃x t el z y zc,pcB E o s=true∧o.op = .call { callee:=.builtin .cap,args:=#[x],argTypes:=#[t] }∧(ax_ E.P t).map (·.k)=some (.sl el z y zc)∧s.pv E x = .sl true []
 ok:=fun o s ⟨_,_,_,_,_,_,h1,h2,h3,h4⟩=>ayn_ (a4_ h1) h2 h3 h4
theorem ax0_ {x h:Operand} {t el z y:Nat} {zc:List V} (hp:PC E o s) (ho:o.op = .slice t x none (some h) none) (ht:(ax_ E.P t).map (·.k)=some (.sl el z y zc)) (hz:0<z) (hx:s.pv E x = .sl true []) (hh:s.pv E h = .i .i64 0):Op1 E o s { v:=.sl true [] }:=by
 refine Op1.pure' hp fun φ S w ρ hr _=>?_
 have h1:=hr x (by simp[ho,Op.operands])
 have h2:=hr h (by simp[ho,Op.operands])
 rw[hx]at h1;rw[hh]at h2;simp only[VR]at h1 h2
 obtain⟨hu,hzz,_⟩:=db_ ht
 obtain⟨A,c,z1,xs,h3,q1,h5,h4,h6,h7⟩:=h1
 have hc:c=0:=h4 trivial
 subst hc
 have hb:=k7_ (P:=E.P) (w:=w) true 0 0 (lo:=none) (hi:=some 0) (mx:=none) (lv:=none) (hv:=some (.int .i64 0)) (mv:=none) (.inl ⟨rfl,rfl⟩) (.inr ⟨.i64,0,rfl,rfl⟩) (.inl ⟨rfl,rfl⟩) (by simp) (by simp) (by simp) (by simp) (by simp) (by simp)
 have hso:=ce_ (P:=E.P) w hzz.symm hz
 refine⟨.slice A 0 0,?_,?_⟩
 ·simp[execOp,ho,h3,h2,Instr.sliceAt,Instr.slice,run_underlying hu,hb,hso]
 simp only[VR]
 exact⟨A,0,z1,xs,rfl,q1,h5,h4,h6,h7⟩
def az6_ (E:Env):CallC E where
 ef:=fun _ _=>{ v:=.sl true [] }
 ob:=fun o s=>∃x h t el z y zc,pcB E o s=true∧o.op = .slice t x none (some h) none∧(ax_ E.P t).map (·.k)=some (.sl el z y zc)∧0<z∧s.pv E x = .sl true []∧s.pv E h = .i .i64 0
 ok:=fun o s ⟨_,_,_,_,_,_,_,h1,h2,h3,h4,h5,h6⟩=>ax0_ (a4_ h1) h2 h3 h4 h5 h6
theorem at7_ {x y:Operand} {t tn el z yb l' n:Nat} {kn:IntKind} {zc:List V} (hp:PC E o s) (ho:o.op = .call { callee:=.builtin .append,args:=#[x,y],argTypes:=#[t,tn] }) (ht:(ax_ E.P t).map (·.k)=some (.sl el z yb zc)) (htn:(ax_ E.P tn).map (·.k)=some (.int kn)) (hz:0<z) (hyb:0<yb) (hzl:zc.length=z) (hz1:zc.all V.one=true)
  (hx:s.pv E x = .sl true []) (hy:s.pv E y = .i .i64 n) (h0:0<n) (hb:n * yb≤140737488355328):Op1 E o s { v:=.ow l' z 0 n,wr:=[(l',some ⟨el,z,[]⟩)],nw:=[l'] }:=by
 have ox:x∈o.op.operands:=by simp[ho,Op.operands,Call.operands]
 have oy:y∈o.op.operands:=by simp[ho,Op.operands,Call.operands]
 have hpx:=hp x ox
 have hpy:=hp y oy
 refine Op1.of fun s' e1 e2 e3 C φ a w hr=>?_
 have h1:=hr.pv (x:=x) (by rw[e1 x ox];exact hpx)
 have h2:=hr.pv (x:=y) (by rw[e1 y oy];exact hpy)
 have e1x:s'.pv E x=s.pv E x:=by unfold St.pv;rw[e1 x ox]
 have e1y:s'.pv E y=s.pv E y:=by unfold St.pv;rw[e1 y oy]
 rw[e1x,hx]at h1;rw[e1y,hy]at h2
 simp only[VR]at h1 h2
 obtain⟨hu,hzz,hyy,hzero⟩:=db_ ht
 obtain⟨i,zv,hi,hiz,hzv,hzn⟩:=c9_ (φ:=φ) (S:=C.S φ s'.m) (w:=w) hzero.symm hzl (dc_ hz1)
 have his:i.size=z:=by rw[hzz];simp[Program.cellsOf,hi]
 have hib:i.bytes=yb:=by rw[hyy];simp[Program.bytesOf,hi]
 have hl':s'.u l'=false:=e3 l' (by simp)
 obtain⟨A,c,z1,xs,f1,f2,f3,f4,f5,f6⟩:=h1
 have hc:c=0:=f4 trivial
 subst hc
 have hn:n≤140737488355328:=Nat.le_trans (Nat.le_mul_of_pos_right n hyb) hb
 have hun:E.P.underlying tn=some (.int kn):=by
  cases h:ax_ E.P tn with
  |none=>rw[h]at htn;cases htn
  |some ti=>rw[h]at htn;exact vh_ h (by simpa using htn)
 have hg:=Lib.run_append_grow_zeros (P:=E.P) w t tn o.type el i zv .i64 kn hu hun hi hiz A 0 0 [] (by cases A<;>simp[Builtin.firstCells,loadCells,loadCellsFrom]) n h0 (by omega) (by omega) (by omega) (by rw[hib];omega) (by rw[hib,Nat.zero_add];have e:Builtin.nextslicecap n 0=n:=(by unfold Builtin.nextslicecap;rw[if_pos (by omega)]);rw[e];omega)
 have hrun:(execOp a.eval o).run E.P w = .ok (.value (.slice (some ⟨w.heap.size,0,none⟩) (0+n) (grownCap w (0+n) 0 el))) (w.drew.alloc (.cells ((([]:List Value).toArray++Builtin.zeroCells zv.cells n)++Builtin.zeroCells zv.cells (grownCap w (0+n) 0 el - (0+n))) el)):=by
  simp only[List.length_nil]at f1
  simp[execOp,ho,resolve,invoke,builtin,f1,h2]
  simp at hg
  rw[hg];rfl
 obtain⟨k1,_⟩:=hr.drew.alloc (l:=l') hl' (T:=el) hz (xs:=[]) VRr.nil (arr:=(([]:List Value).toArray++Builtin.zeroCells zv.cells n)++Builtin.zeroCells zv.cells (grownCap w (0+n) 0 el - (0+n))) (by simp)
 refine⟨_,_,_,.inl hrun,by rw[f0_];exact k1,?_⟩
 simp only[VR]
 refine⟨_,_,by rw[Nat.zero_add],by have:=grownCap_ge w (0+n) 0 el;rw[Nat.zero_add]at this;simpa using this,fe_ _ _ _ _ (by unfold maxLen;omega),.inr ⟨w.heap.size,el,_,by simp,by simp,cr_ (heap_alloc_new w.drew _),?_⟩⟩
 have:=grownCap_ge w (0+n) 0 el
 simp only[Array.size_append,size_zeroCells,hzn,List.size_toArray,List.length_nil,Nat.zero_add]at this ⊢
 rw[←Nat.add_mul]
 exact Nat.mul_le_mul_right _ (by omega)
def a0i_ (E:Env) (el z l' n:Nat):CallC E where
 ef:=fun _ _=>{ v:=.ow l' z 0 n,wr:=[(l',some ⟨el,z,[]⟩)],nw:=[l'] }
 ob:=fun o s=>∃x y t tn kn yb zc,pcB E o s=true∧o.op = .call { callee:=.builtin .append,args:=#[x,y],argTypes:=#[t,tn] }∧(ax_ E.P t).map (·.k)=some (.sl el z yb zc)∧(ax_ E.P tn).map (·.k)=some (.int kn)∧0<z∧0<yb∧zc.length=z∧zc.all V.one=true∧s.pv E x = .sl true []∧s.pv E y = .i .i64 n∧0<n∧n * yb≤140737488355328
 ok:=fun o s ⟨_,_,_,_,_,_,_,h1,h2,h3,h4,h5,h6,h7,h8,h9,h10,h11,h12⟩=>at7_ (a4_ h1) h2 h3 h4 h5 h6 h7 h8 h9 h10 h11 h12
end
end
end Go.Proofs.YthjccajoadjicaaGreatDoor
