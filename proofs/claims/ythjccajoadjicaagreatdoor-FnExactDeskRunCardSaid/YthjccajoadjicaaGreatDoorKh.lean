/- Plain laws: types taken away: right still, no wider; which words stand in it. Conditions: none. -/
import Derived.Test.YthjccajoadjicaaGreatDoorKg
import Derived.Test.YthjccajoadjicaaGreatDoorKf
import Derived.Test.YthjccajoadjicaaGreatDoorKe
import Derived.Test.YthjccajoadjicaaGreatDoorKc
set_option linter.unusedVariables false
set_option linter.unusedSimpArgs false
namespace Go.Proofs.YthjccajoadjicaaGreatDoor
section
mutual
theorem y4_:∀(e:E) (d k:Nat),form e d=true→form e ((d+k:Nat):Int)=true∧many e ((d+k:Nat):Int)=many e d
 |.mk kd n s kids,d,k,h=>by
  have hd:1≤d:=by have:=(ar_ h).1;omega
  obtain⟨d,rfl⟩:∃d',d=d'+1:=⟨d - 1,by omega⟩
  have e1:((d+1:Nat):Int) - 1=(d:Int):=by omega
  have e2:((d+1+k:Nat):Int) - 1=((d+k:Nat):Int):=by omega
  simp only[form,T5_,T3_]at h ⊢
  rw[e1]at h
  have:=u6_ kids d k h.2
  rw[e2]
  refine⟨⟨⟨by omega,h.1.2⟩,this.1⟩,?_⟩
  simp only[many]
  rw[if_pos (by omega),if_pos (by omega),e1,e2,this.2]
theorem u6_:∀(l:List E) (d k:Nat),c7_ l d=true→c7_ l ((d+k:Nat):Int)=true∧co_ l ((d+k:Nat):Int)=co_ l d
 |[],d,k,_=>by simp[c7_,co_]
 |e::r,d,k,h=>by
  simp only[c7_,T5_]at h ⊢
  have h1:=y4_ e d k h.1
  have h2:=u6_ r d k h.2
  simp only[co_]
  exact⟨⟨h1.1,h2.1⟩,by rw[h1.2,h2.2]⟩
end
def wid (l:List Str):Nat:=(l.map fun s=>s.length+1).sum
theorem aas_:wid []=0:=rfl
theorem ki_ (s:Str) (l:List Str):wid (s::l)=s.length+1+wid l:=rfl
theorem kv_ (a b:List Str):wid (a++b)=wid a+wid b:=by simp[wid,List.sum_append]
theorem ajr_ (l:List Str):wid l=(l.map List.length).sum+l.length:=by
 induction l with
 |nil=>rfl
 |cons s l ih=>rw[ki_,ih,List.map_cons,List.sum_cons,T7_];omega
theorem ac1_ {l:List Str} (h:l≠[]):(ax_ l).length+1=wid l:=by rw[hy_ l h,ajr_]
theorem E.ext4 {e:E} {k n:Int} {s:Str} {l:List E} (h1:e.kind=k) (h2:e.n=n) (h3:e.s=s) (h4:e.kids=l):e = .mk k n s l:=by cases e;simp only[E.kind,E.n,E.s,E.kids]at *;subst h1 h2 h3 h4;rfl
theorem f6_ {e:E} (k:e.kind≠4) (hl:e.kids=[]):bare e=e:=by
 rw[qk_ k,hl];simp only[eb_];exact(E.ext4 rfl rfl rfl hl).symm
theorem ps_ {e:E} (k:e.kind=3) (hl:e.kids.length=2):bare e = .mk 3 e.n e.s [bare (e.kids.getD 0 E0),bare (e.kids.getD 1 E0)]:=by
 rw[qk_ (by omega),k];conv=>lhs;rw[j8_ hl]
 simp only[eb_]
theorem s3_ {e:E} (k:e.kind=4) (hl:e.kids.length=1):bare e=bare (e.kids.getD 0 E0):=yl_ k (by omega)
theorem f7_:∀(d:Nat) (e:E),form e d=true→form (bare e) d=true∧many (bare e) d≤many e d
 |0,e,h=>by have:=(ar_ h).1;omega
 |d+1,e,h=>by
  have e1:((d+1:Nat):Int) - 1=(d:Int):=by omega
  obtain⟨h0,h1|h1|h1|h1⟩:=ar_ h
  ·rw[f6_ (by omega) h1.2.2.2.2];exact⟨h,Int.le_refl _⟩
  ·rw[f6_ (by omega) h1.2.2.2];exact⟨h,Int.le_refl _⟩
  ·obtain⟨k,hn,ho,hl,ha,hb⟩:=h1
   rw[e1]at ha hb
   obtain⟨a1,a2⟩:=f7_ d _ ha
   obtain⟨b1,b2⟩:=f7_ d _ hb
   rw[ps_ k hl,j4_ h0 hl,e1]
   refine⟨?_,?_⟩
   ·simp only[form,c7_,e1,a1,b1,Bool.and_true,T5_,T3_]
    exact⟨h0,by simp[shape,hn,ho]⟩
   ·rw[j4_ (e:=.mk 3 e.n e.s [_,_]) h0 rfl,e1]
    show 1+many (bare (e.kids.getD 0 E0)) d+many (bare (e.kids.getD 1 E0)) d≤_
    omega
  ·obtain⟨k,hn,ho,hl,ha⟩:=h1
   rw[e1]at ha
   obtain⟨a1,a2⟩:=f7_ d _ ha
   rw[s3_ k hl,lp_ h0 hl,e1]
   obtain⟨m1,m2⟩:=y4_ _ d 1 a1
   exact⟨m1,by rw[m2];omega⟩
theorem ta_ {e:E} (h:eok e=true):pe (bare e)=true:=by
 have h1:=f7_ 5 e (ay_ h)
 have h2:=kg_ h
 simp only[pe,eok,T5_,T3_]
 exact⟨⟨h1.1,Int.le_trans h1.2 h2⟩,lo_ e (ly_ h)⟩
theorem ao4_ {e:E} {d:Nat} (h:form e d=true) {a b:Int} (hab:a≤b):wid (wds e a)≤wid (wds e b):=by
 obtain⟨h0,h1|h1|h1|h1⟩:=ar_ h
 ·rw[dp_ h1.1,dp_ h1.1];exact Nat.le_refl _
 ·rw[cs_ h1.1,cs_ h1.1];exact Nat.le_refl _
 ·rw[d7_ h1.1 h1.2.2.2.1,d7_ h1.1 h1.2.2.2.1]
  split<;>split
  ·exact Nat.le_refl _
  ·omega
  ·simp only[kv_];omega
  ·exact Nat.le_refl _
 ·rw[iz_ h1.1 h1.2.2.2.1,iz_ h1.1 h1.2.2.2.1];exact Nat.le_refl _
theorem ox_:∀(d:Nat) (e:E) (must:Int),must≤4→form e d=true→wid (wds (bare e) must)≤wid (wds e must)
 |0,e,must,_,h=>by have:=(ar_ h).1;omega
 |d+1,e,must,hm,h=>by
  have e1:((d+1:Nat):Int) - 1=(d:Int):=by omega
  obtain⟨h0,h1|h1|h1|h1⟩:=ar_ h
  ·rw[f6_ (by omega) h1.2.2.2.2];exact Nat.le_refl _
  ·rw[f6_ (by omega) h1.2.2.2];exact Nat.le_refl _
  ·obtain⟨k,hn,ho,hl,ha,hb⟩:=h1
   rw[e1]at ha hb
   have ht:=by_ ho
   have A:=ox_ d _ (max 2 (ap_ e.s)) (by omega) ha
   have B:=ox_ d _ (ap_ e.s+1) (by omega) hb
   rw[ps_ k hl,d7_ k hl,d7_ (e:=.mk 3 e.n e.s [_,_]) rfl rfl]
   show wid (if ap_ e.s<must then [[40]]++(wds (bare (e.kids.getD 0 E0)) (max 2 (ap_ e.s))++[e.s]++wds (bare (e.kids.getD 1 E0)) (ap_ e.s+1))++[[41]]else wds (bare (e.kids.getD 0 E0)) (max 2 (ap_ e.s))++[e.s]++wds (bare (e.kids.getD 1 E0)) (ap_ e.s+1))≤_
   split<;>simp only[kv_]<;>omega
  ·obtain⟨k,hn,ho,hl,ha⟩:=h1
   rw[e1]at ha
   have A:=ox_ d _ 4 (by omega) ha
   have M:=ao4_ (f7_ d _ ha).1 hm
   rw[s3_ k hl,iz_ k hl,kv_];omega
def offW (w:Str):Prop:=w≠wAs∧w≠[105,110,116]∧w≠[98,111,111,108]∧w≠jm_∧w≠bp_∧w≠dg_
instance (w:Str):Decidable (offW w):=by unfold offW;exact inferInstance
theorem as9_ {s:Sl} (h:ca_ s=true):wid (bw (bof s))≤wid (sw' s)+2:=by
 unfold ca_ at h
 by_cases k0:s.kind=0
 ·simp[bw,sw',bof,k0,aas_]
 have hb:∀e:E,eok e=true→wid (wds (bare e) 1)≤wid (wds e 1):=fun e he=>ox_ 5 e 1 (by decide) (ay_ he)
 by_cases k1:s.kind=1
 ·simp[k1]at h
  have:=hb _ h.1.2
  simp[bw,sw',bof,k1,ki_,wEq,jm_,bz_];omega
 by_cases k2:s.kind=2
 ·simp[k2]at h
  have:=hb _ h.1.2
  simp[bw,sw',bof,k2,ki_,bi_,bp_];omega
 by_cases k3:s.kind=3
 ·simp[k3]at h
  have h1:=hb _ h.1.2
  have h2:=hb _ h.2
  simp[bw,sw',bof,k3,ki_,kv_,bi_,bp_,wIf,dg_,bz_];omega
 ·simp[k0,k1,k2,k3]at h
theorem i6_ {s:Sl} (h:ca_ s=true):c0_ (bof s)=true:=by
 unfold ca_ at h
 by_cases k0:s.kind=0
 ·simp[k0,c4_]at h;simp[c0_,bof,k0,h,t7_]
 by_cases k1:s.kind=1
 ·simp[k1,c4_]at h;simp[c0_,bof,k1,h,t7_,ta_ h.1.2]
 by_cases k2:s.kind=2
 ·simp[k2,c4_]at h;simp[c0_,bof,k2,h,t7_,ta_ h.1.2]
 by_cases k3:s.kind=3
 ·simp[k3]at h;simp[c0_,bof,k3,h,ta_ h.1.2,ta_ h.2]
 ·simp[k0,k1,k2,k3]at h
theorem azn_ {s:Sl} (h:s.kind=1∨s.kind=2∨s.kind=3):sw' s≠[]∧bw (bof s)≠[]:=by
 rcases h with k|k|k<;>simp[sw',bw,bof,k]
theorem amo_ {s:Sl} (h:ca_ s=true):(ax_ (bw (bof s))).length≤(ax_ (sw' s)).length+2:=by
 have h1:=as9_ h
 by_cases hk:s.kind=1∨s.kind=2∨s.kind=3
 ·obtain⟨n1,n2⟩:=azn_ hk
  have t1:=ac1_ n1
  have t2:=ac1_ n2
  omega
 ·have:bw (bof s)=[]:=by
   simp only[not_or]at hk
   simp[bw,bof,hk]
  rw[this];simp[f8_]
theorem o4_ {s:Sl} (h:sok s=true):ca_ s=true∧(ax_ (sw' s)).length≤116:=by
 simpa[sok]using h
theorem aa4_ {s:Sl} (h:sok s=true):bok (bof s)=true:=by
 obtain⟨h1,h2⟩:=o4_ h
 have h3:=amo_ h1
 simp only[bok,i6_ h1,Bool.true_and,T3_];omega
end
section
set_option maxRecDepth 100000
set_option maxHeartbeats 1000000
def dS0 (b:Str) (p:Int):E × Int:=dE b ((o8_ b p 4).toNat+1) (p+1)
def nf_ (b:Str) (p:Int):E × Int:=if eok (dS0 b p).1 then dS0 b p else dE b 2 (dS0 b p).2
end
section
set_option maxRecDepth 100000
set_option maxHeartbeats 1000000
def sC (s:Sl):List V:=.i .i64 s.kind::.s s.name::.s s.type::(eC s.expr++eC s.thn)
theorem br_ (s:Sl):sC s=[.i .i64 s.kind,.s s.name,.s s.type,.i .i64 s.expr.kind,.i .i64 s.expr.n,.s s.expr.s,.sl false (eR s.expr.kids),.i .i64 s.thn.kind,.i .i64 s.thn.n,.s s.thn.s,.sl false (eR s.thn.kids)]:=by
 simp only[sC,gu_];rfl
def g6_ (s:Sl):Bool:=decide (s.name.length<4611686018427387904)&&decide (s.type.length<4611686018427387904)&&sm s.expr&&sm s.thn
theorem hz_ {s:Sl} (h:g6_ s=true):s.name.length<4611686018427387904∧s.type.length<4611686018427387904∧sm s.expr=true∧sm s.thn=true:=by
 simp only[g6_,T5_,T3_]at h;exact⟨h.1.1.1,h.1.1.2,h.1.2,h.2⟩
def d5 (b:Str) (p k:Int):Sl × Int:=
 if k=0 then(S0,(nf_ b p).2)
 else if k=1 then(⟨1,ofI b (nf_ b p).2 [[120],[121],[122]],ofI b ((nf_ b p).2+1) [[105,110,116],[105,110,116],[98,111,111,108]],(nf_ b p).1,E0⟩,(nf_ b p).2+2)
 else if k=3 then(⟨3,[],[],(nf_ b p).1,(dE b 2 (nf_ b p).2).1⟩,(dE b 2 (nf_ b p).2).2)
 else(⟨k,[],[],(nf_ b p).1,E0⟩,(nf_ b p).2)
theorem hc_:E0.kind=0:=rfl
theorem hp_:E0.n=0:=rfl
theorem ha_:E0.s=[]:=rfl
theorem b0_:E0.kids=[]:=rfl
theorem cl_:eR []=[]:=by simp only[eR]
theorem aj1_:wf E0=true:=by decide
theorem ay6_:sm E0=true:=by decide
theorem ase_ {s:Sl} (h:g6_ s=true):smb (bof s)=true:=by
 obtain⟨s1,s2,s3,s4⟩:=hz_ h
 unfold smb bof
 simp only[s1,decide_true,Bool.true_and]
 split<;>split<;>simp[s1_,s3,s4,ay6_]
end
section
set_option maxRecDepth 100000
set_option maxHeartbeats 4000000
def dm_ (s:Sl):Wd:=
 if s.kind=1 then(jm_,100)::(s.name,101)::(bz_, -1)::(s.type, -1)::(wEq,102)::src s.expr 0 0
 else if s.kind=2 then(bp_,103)::src s.expr 0 0
 else if s.kind=3 then((dg_,100)::src s.expr 0 0++[(bp_,103)])++src s.thn 0 (cnt s.expr)
 else []
theorem g5_ {s:Sl} (h:ca_ s=true):(s.kind=0∨s.kind=1∨s.kind=2∨s.kind=3)∧(s.kind=1∨s.kind=2∨s.kind=3→eok s.expr=true)∧(s.kind=3→eok s.thn=true):=by
 unfold ca_ at h
 by_cases k0:s.kind=0
 ·simp[k0]
 by_cases k1:s.kind=1
 ·simp[k1]at h;simp[k1];exact h.1.2
 by_cases k2:s.kind=2
 ·simp[k2]at h;simp[k2];exact h.1.2
 by_cases k3:s.kind=3
 ·simp[k3]at h;simp[k3];exact⟨h.1.2,h.2⟩
 ·simp[k0,k1,k2,k3]at h
theorem ti_ {s:Sl} (h:ca_ s=true):(dm_ s).map (·.1)=sw' s:=by
 obtain⟨h0,h1,h2⟩:=g5_ h
 unfold dm_ sw'
 rcases h0 with k|k|k|k
 ·simp[k]
 ·simp[k,ek_,fa_ (ay_ (h1 (.inl k)))]
 ·simp[k,ek_,fa_ (ay_ (h1 (.inr (.inl k))))]
 ·simp[k,ek_,fa_ (ay_ (h1 (.inr (.inr k)))),fa_ (ay_ (h2 k))]
attribute [local go_sem] cj_ dr_ T2_ T1_ br_ in
theorem ae7_ (s:Sl) (h:ca_ s=true) (hs:g6_ s=true):ACall En 132 [.ag (sC s)] [] [.sl false (wdR (dm_ s))] []:=by
 obtain⟨h0,h1,h2⟩:=g5_ h
 obtain⟨s1,s1',s2,s3⟩:=hz_ hs
 have W:s.kind=1∨s.kind=2∨s.kind=3→_:=fun hk=>oz_ 5 s.expr 0 0 (ay_ (h1 hk)) s2 (h7_ (h1 hk)) (by decide) (by have:=nk_ (h1 hk);omega) (by decide)
 have W3:s.kind=3→_:=fun hk=>oz_ 5 s.thn 0 (0+cnt s.expr) (ay_ (h2 hk)) s3 (h7_ (h2 hk)) (by have:=nk_ (h1 (.inr (.inr hk)));omega) (by have:=nk_ (h1 (.inr (.inr hk)));have:=nk_ (h2 hk);omega) (by decide)
 refine aa_ [] Tryz.func132 Tryz.ntmps132 fun C=>?_
 refine .seq (.rgo [] ?_ ?_)
 ·(first|trivial|(simp;done)|(simp[a7_,List.forall_mem_append,au_];done))
 refine .seq (.rgo [] ?_ ?_)
 ·(first|trivial|(simp;done)|(simp[a7_,List.forall_mem_append,au_];done))
 refine .seq (.seq (.rgo [] ?_ ?_))
 ·(first|trivial|(simp;done)|(simp[a7_,List.forall_mem_append,au_];done))
 refine .block (.seq (.rgo [] ?_ ?_))
 ·(first|trivial|(simp;done)|(simp[a7_,List.forall_mem_append,au_];done))
 refine .cB (fun h7=>?_) (fun h7=>?_)
 ·refine .seq (.rgDo [bf_ [13] [31] (W (.inl (by simpa using h7)))] ?_ ?_ (h:=by simp only[go_sem,seval,at_,bm_];rfl))
  ·have q:=h1 (.inl (by simpa using h7));have q2:=(h9_ q 0 0);have q3:src s.expr 0 0≠[]:=(fun e=>by have:=(bk_ q 0).1;rw[←k9_ s.expr 0 0,e]at this;simp at this);simp[a7_,au_,q3,fq_];omega
  refine .fX 32 ?_
  refine .ret ⟨.inr rfl,?_⟩
  exact Out.pl (by simp only[Tryz.results132];rfl) (by simp only[ag_,go_sem,seval]<;>(have k:s.kind=1:=(by simpa using h7);rw[if_pos (by omega),T1_ (by simp[cj_];omega)];simp[dm_,k,wdR,peel,wEq,jm_,bz_]))
 ·refine .seq (.rgo [] ?_ ?_)
  ·(first|trivial|(simp;done)|(simp[a7_,List.forall_mem_append,au_];done))
  refine .cB (fun h23=>?_) (fun h23=>?_)
  ·refine .seq (.rgo [bf_ [13] [39] (W (.inr (.inl (by simpa using h23))))] ?_ ?_ (h:=by simp only[go_sem,seval,at_,bm_];rfl))
   ·have q:=h1 (.inr (.inl (by simpa using h23)));have q2:=(h9_ q 0 0);have q3:src s.expr 0 0≠[]:=(fun e=>by have:=(bk_ q 0).1;rw[←k9_ s.expr 0 0,e]at this;simp at this);simp[a7_,au_,q3,fq_];omega
   refine .fX 40 ?_
   refine .ret ⟨.inr rfl,?_⟩
   exact Out.pl (by simp only[Tryz.results132];rfl) (by simp only[ag_,go_sem,seval]<;>(have k:s.kind=2:=(by simpa using h23);rw[if_pos (by omega),T1_ (by simp[cj_];omega)];simp[dm_,k,wdR,peel,bp_]))
  ·refine .seq (.rgo [] ?_ ?_)
   ·(first|trivial|(simp;done)|(simp[a7_,List.forall_mem_append,au_];done))
   refine .cB (fun h31=>?_) (fun h31=>?_)
   ·refine .seq (.rgo [bf_ [13] [47] (W (.inr (.inr (by simpa using h31))))] ?_ ?_ (h:=by simp only[go_sem,seval,at_,bm_];rfl))
    ·have q:=h1 (.inr (.inr (by simpa using h31)));have q2:=(h9_ q 0 0);have q3:src s.expr 0 0≠[]:=(fun e=>by have:=(bk_ q 0).1;rw[←k9_ s.expr 0 0,e]at this;simp at this);simp[a7_,au_,q3,fq_];omega
    refine .seq (.rgo [] ?_ ?_)
    ·have q:=h1 (.inr (.inr (by simpa using h31)));have q2:=(h9_ q 0 0);simp[a7_,au_];omega
    refine .seq (.rgo [bf_ [13] [56] (W3 (by simpa using h31))] ?_ ?_ (h:=by simp only[go_sem,seval,at_,bm_];rfl))
    ·have q:=h1 (.inr (.inr (by simpa using h31)));have q2:=(h9_ q 0 0);have q4:=h9_ (h2 (by simpa using h31)) 0 (0+cnt s.expr);simp at q4;simp[a7_,au_];omega
    refine .fX 57 ?_
    refine .ret ⟨.inr rfl,?_⟩
    exact Out.pl (by simp only[Tryz.results132];rfl) (by simp only[ag_,go_sem,seval]<;>(have k:s.kind=3:=(by simpa using h31);rw[if_pos (by omega),T1_ (by simp[cj_];omega)];simp[dm_,k,wdR,peel,bp_,dg_]))
   ·refine .skip (.seq (.rgo [] ?_ ?_))
    ·(first|trivial|(simp;done)|(simp[a7_,List.forall_mem_append,au_];done))
    refine .can (Can.slotLe 2 (.sl false []) (by simp only[go_sem,seval]<;>trivial) (by simp only[go_sem,seval]<;>rfl)) ?_
    refine .ret ⟨.inr rfl,?_⟩
    exact Out.pl (by simp only[Tryz.results132];rfl) (by simp only[ag_,go_sem,seval]<;>(have k:s.kind=0:=(by simp_all);simp[dm_,k,wdR]))
theorem tw_ {s:Sl} (h:ca_ s=true):(ax_ (sw' s)).length≤1000:=by
 have:=sm_ h
 have h2:=wh_ (fun s hs=>(this.2 s hs).2)
 omega
attribute [local go_sem] br_ dr_ in
theorem zz_ (s:Sl) (h:ca_ s=true) (hs:g6_ s=true):ACall En 201 [.ag (sC s)] [] [.s (ax_ (sw' s))] []:=by
 have h1:=tw_ h
 have h2:=(sm_ h).1
 have h3:=ti_ h
 have h4:(dm_ s).length=(sw' s).length:=by rw[←h3,List.length_map]
 refine aa_ [] Tryz.func201 Tryz.ntmps201 fun C=>?_
 refine .seq (.rgo [] ?_ ?_ (h:=by simp only[go_sem,seval,h3];rfl))
 ·simp
 refine .seq (.rgo [ab_ (ae7_ s h hs),ab_ (lz_ (dm_ s) (by omega)),ab_ (gs_ (sw' s) (by omega) (by omega))] ?_ ?_ (h:=by simp only[go_sem,seval,h3];rfl))
 ·simp
 refine .ret ⟨.inr rfl,?_⟩
 exact Out.pl (by simp only[Tryz.results201];rfl) (by simp only[ag_,go_sem,seval,h3]<;>(rfl)) (h1:=by simp only[a8_,b4_,go_sem,seval,h3]<;>(split<;>rfl)) (h3:=by simp only[go_sem,seval,h3])
attribute [local go_sem] br_ in
theorem qi_ (s:Sl) (hs:g6_ s=true):ACall En 130 [.ag (sC s)] [] [.b (sok s)] []:=by
 obtain⟨s1,s1',s2,s3⟩:=hz_ hs
 refine aa_ [] Tryz.func130 Tryz.ntmps130 fun C=>?_
 refine .seq (.rgo [] ?_ ?_)
 ·(first|trivial|(simp;done)|exact hJ.symm)
 refine .seq (.rgo [] ?_ ?_)
 ·(first|trivial|(simp;done)|exact hJ.symm)
 refine .seqJ (fun q:Bool=>⟨[.no,.pt 11 11 0 0,.no,.b q,.no,.no,.no,.no,.no,.no,.no,.no,.no,.no,.no,.no,.no,.no,.no,.no,.no,.no,.no,.no,.no,.no,.no,.no,.no,.no,.no,.no,.no,.no,.no,.no,.no,.no,.no,.no,.no,.no,.no,.no,.no,.no,.no,.no,.no,.no,.no,.no,.no,.no,.no,.no,.no,.no,.no,.no,.no,.no,.no,.no,.no,.no,.no,.no,.no,.no,.no,.no,.no,.no,.no,.no,.no,.no,.no,.no,.no,.no,.no,.no,.no,.no,.no,.no,.no,.no,.no,.no,.no],ak_ [(11,⟨58,11,[sC s]⟩)],us [11]⟩) (fun q:Bool=>q=ca_ s) ?_ (fun q hJ=>?_)
 ·refine .seq (.rgo [] ?_ ?_)
  ·(first|trivial|(simp;done)|exact hJ.symm)
  refine .block (.seq (.rgo [] ?_ ?_))
  ·(first|trivial|(simp;done)|exact hJ.symm)
  refine .cB (fun h6=>?_) (fun h6=>?_)
  ·refine .rgo [ab_ (e7_ s.expr s2),ab_ (e7_ s.thn s3)] ?_ ?_
   ·(first|trivial|(simp;done)|exact hJ.symm)
   refine Exists.intro (ca_ s) ⟨?_,?_⟩
   ·rfl
   refine Can.wh ?_;first|trivial|((unfold ca_;simp_all))
  ·refine .seq (.rgo [] ?_ ?_)
   ·(first|trivial|(simp;done)|exact hJ.symm)
   refine .cB (fun h26=>?_) (fun h26=>?_)
   ·refine .rgo [ab_ (pm_ s.name s1),ab_ (ack_ s.type),ab_ (g9_ s.expr s2),ab_ (e7_ s.thn s3)] ?_ ?_
    ·(first|trivial|(simp;done)|exact hJ.symm)
    refine Exists.intro (ca_ s) ⟨?_,?_⟩
    ·rfl
    refine Can.wh ?_;first|trivial|((unfold ca_;simp_all))
   ·refine .seq (.rgo [] ?_ ?_)
    ·(first|trivial|(simp;done)|exact hJ.symm)
    refine .cB (fun h46=>?_) (fun h46=>?_)
    ·refine .rgo [ab_ (g9_ s.expr s2),ab_ (e7_ s.thn s3)] ?_ ?_
     ·(first|trivial|(simp;done)|exact hJ.symm)
     refine Exists.intro (ca_ s) ⟨?_,?_⟩
     ·rfl
     refine Can.wh ?_;first|trivial|((unfold ca_;simp_all))
    ·refine .seq (.rgo [] ?_ ?_)
     ·(first|trivial|(simp;done)|exact hJ.symm)
     refine .cB (fun h66=>?_) (fun h66=>?_)
     ·refine .rgo [ab_ (g9_ s.expr s2),ab_ (g9_ s.thn s3)] ?_ ?_
      ·(first|trivial|(simp;done)|exact hJ.symm)
      refine Exists.intro (ca_ s) ⟨?_,?_⟩
      ·rfl
      refine Can.wh ?_;first|trivial|((unfold ca_;simp_all))
     ·refine .skip ?_
      refine Exists.intro (ca_ s) ⟨?_,?_⟩
      ·rfl
      refine Can.wh ?_;first|trivial|((unfold ca_;simp_all))
 cases q
 ·refine .seq (.rgo [a4_ (ca_ s=true) (fun h=>zz_ s h hs)] ?_ ?_)
  ·(first|trivial|(simp;done)|exact hJ.symm)
  refine .ret ⟨.inr rfl,?_⟩
  exact Out.pl (by simp only[Tryz.results130];rfl) (by simp only[ag_,go_sem,seval]<;>(rw[sok,←hJ];first|rfl|(rw[Bool.true_and,dq_];rfl)))
 ·refine .seq (.rgo [a4_ (ca_ s=true) (fun h=>zz_ s h hs)] ?_ ?_)
  ·(first|trivial|(simp;done)|exact hJ.symm)
  refine .ret ⟨.inr rfl,?_⟩
  exact Out.pl (by simp only[Tryz.results130];rfl) (by simp only[ag_,go_sem,seval]<;>(rw[sok,←hJ];first|rfl|(rw[Bool.true_and,dq_];rfl)))
theorem dw_ {s:Sl} (h:sok s=true):ca_ s=true:=by simp only[sok,T5_]at h;exact h.1
def stxt (s:Sl):Str:=if sok s then ax_ (sw' s)else []
attribute [local go_sem] br_ in
theorem acv_ (s:Sl) (hs:g6_ s=true):ACall En 131 [.ag (sC s)] [] [.s (stxt s)] []:=by
 refine aa_ [] Tryz.func131 Tryz.ntmps131 fun C=>?_
 refine .seq (.rg [] ?_)
 refine .seq (.seq (.rgo [ab_ (qi_ s hs)] ?_ ?_))
 ·simp
 refine .cB (fun h5=>?_) (fun h5=>?_)
 ·refine .seq (.rg [] ?_)
  refine .ret ⟨.inr rfl,?_⟩
  exact Out.pl (by simp only[Tryz.results131];rfl) (by simp only[ag_,go_sem,seval]<;>(simp at h5;simp[stxt,h5]))
 ·refine .skip (.seq (.rgo [a4_ (sok s=true) (fun h=>zz_ s (dw_ h) hs)] ?_ ?_))
  ·simpa using h5
  refine .ret ⟨.inr rfl,?_⟩
  exact Out.pl (by simp only[Tryz.results131];rfl) (by simp only[ag_,go_sem,seval]<;>(simp at h5;simp[stxt,h5]))
attribute [local go_sem] al_ aq_ T2_ T1_ br_ in
theorem mh_ (s:Sl) (h:ca_ s=true) (hs:g6_ s=true):ACall En 50 [.ag (sC s)] [] [.sl false (an_ (sw' s))] []:=by
 obtain⟨h0,h1,h2⟩:=g5_ h
 obtain⟨s1,s1',s2,s3⟩:=hz_ hs
 have W:s.kind=1∨s.kind=2∨s.kind=3→_:=fun hk=>ho_ 5 s.expr 1 (ay_ (h1 hk)) s2 (h7_ (h1 hk)) (by decide) (by decide)
 have W3:s.kind=3→_:=fun hk=>ho_ 5 s.thn 1 (ay_ (h2 hk)) s3 (h7_ (h2 hk)) (by decide) (by decide)
 refine aa_ [] Tryz.func50 Tryz.ntmps50 fun C=>?_
 refine .seq (.rgo [] ?_ ?_)
 ·(first|trivial|(simp;done)|(simp[ai_];done))
 refine .seq (.seq (.rgo [] ?_ ?_))
 ·(first|trivial|(simp;done)|(simp[ai_];done))
 refine .block (.seq (.rgo [] ?_ ?_))
 ·(first|trivial|(simp;done)|(simp[ai_];done))
 refine .cB (fun h6=>?_) (fun h6=>?_)
 ·refine .seq (.rgDo [ab_ (W (.inl (by simpa using h6)))] ?_ ?_)
  ·have q:=h1 (.inl (by simpa using h6));have q2:=(bk_ q 1);have q3:=rg_ q 1;simp[a7_,ai_,q3,hn_];omega
  refine .fX 26 ?_
  refine .ret ⟨.inr rfl,?_⟩
  exact Out.pl (by simp only[Tryz.results50];rfl) (by simp only[ag_,go_sem,seval]<;>(have k:s.kind=1:=(by simpa using h6);rw[if_pos (by omega),T1_ (by simp[al_];omega)];simp[sw',k,an_,peel,wEq,jm_,bz_]))
 ·refine .seq (.rgo [] ?_ ?_)
  ·(first|trivial|(simp;done)|(simp[ai_];done))
  refine .cB (fun h17=>?_) (fun h17=>?_)
  ·refine .seq (.rgo [ab_ (W (.inr (.inl (by simpa using h17))))] ?_ ?_)
   ·have q:=h1 (.inr (.inl (by simpa using h17)));have q2:=(bk_ q 1);have q3:=rg_ q 1;simp[a7_,ai_,q3,hn_];omega
   refine .fX 33 ?_
   refine .ret ⟨.inr rfl,?_⟩
   exact Out.pl (by simp only[Tryz.results50];rfl) (by simp only[ag_,go_sem,seval]<;>(have k:s.kind=2:=(by simpa using h17);rw[if_pos (by omega),T1_ (by simp[al_];omega)];simp[sw',k,an_,peel,bp_]))
  ·refine .seq (.rgo [] ?_ ?_)
   ·(first|trivial|(simp;done)|(simp[ai_];done))
   refine .cB (fun h24=>?_) (fun h24=>?_)
   ·refine .seq (.rgo [ab_ (W (.inr (.inr (by simpa using h24))))] ?_ ?_)
    ·have q:=h1 (.inr (.inr (by simpa using h24)));have q2:=(bk_ q 1);have q3:=rg_ q 1;simp[a7_,ai_,q3,hn_];omega
    refine .seq (.rgDo [ab_ (W3 (by simpa using h24))] ?_ ?_)
    ·have q:=h1 (.inr (.inr (by simpa using h24)));have q2:=(bk_ q 1);have q4:=bk_ (h2 (by simpa using h24)) 1;simp[a7_,ai_];omega
    refine .fX 47 ?_
    refine .ret ⟨.inr rfl,?_⟩
    exact Out.pl (by simp only[Tryz.results50];rfl) (by simp only[ag_,go_sem,seval]<;>(have k:s.kind=3:=(by simpa using h24);rw[if_pos (by omega),T1_ (by simp[al_];omega)];simp[sw',k,an_,peel,bp_,dg_]))
   ·refine .skip (.seq (.rgo [] ?_ ?_))
    ·(first|trivial|(simp;done)|(simp[ai_];done))
    refine .can (Can.slotLe 2 (.sl false []) (by simp only[go_sem,seval]<;>trivial) (by simp only[go_sem,seval]<;>rfl)) ?_
    refine .ret ⟨.inr rfl,?_⟩
    exact Out.pl (by simp only[Tryz.results50];rfl) (by simp only[ag_,go_sem,seval]<;>(have k:s.kind=0:=(by simp_all);simp[sw',k,an_]))
attribute [local go_sem] br_ aq_ in
theorem qv_ (s:Sl) (hs:g6_ s=true):ACall En 48 [.ag (sC s)] [] [.b (sok s)] []:=by
 obtain⟨s1,s1',s2,s3⟩:=hz_ hs
 refine aa_ [] Tryz.func48 Tryz.ntmps48 fun C=>?_
 refine .seq (.rgo [] ?_ ?_)
 ·(first|trivial|(simp;done)|exact hJ.symm|exact⟨hJ.symm,hJ.symm⟩)
 refine .seq (.rgo [] ?_ ?_)
 ·(first|trivial|(simp;done)|exact hJ.symm|exact⟨hJ.symm,hJ.symm⟩)
 refine .seqJ (fun q:Bool=>⟨[.no,.pt 11 11 0 0,.no,.b q,.no,.no,.no,.no,.no,.no,.no,.no,.no,.no,.no,.no,.no,.no,.no,.no,.no,.no,.no,.no,.no,.no,.no,.no,.no,.no,.no,.no,.no,.no,.no,.no,.no,.no,.no,.no,.no,.no,.no,.no,.no,.no,.no,.no,.no,.no,.no,.no,.no,.no,.no,.no,.no,.no,.no,.no,.no,.no,.no,.no,.no,.no,.no,.no,.no,.no,.no,.no,.no,.no,.no,.no,.no,.no,.no,.no,.no,.no,.no,.no,.no,.no,.no,.no,.no,.no,.no,.no,.no,.no],ak_ [(11,⟨58,11,[sC s]⟩)],us [11]⟩) (fun q:Bool=>q=ca_ s) ?_ (fun q hJ=>?_)
 ·refine .seq (.rgo [] ?_ ?_)
  ·(first|trivial|(simp;done)|exact hJ.symm|exact⟨hJ.symm,hJ.symm⟩)
  refine .block (.seq (.rgo [] ?_ ?_))
  ·(first|trivial|(simp;done)|exact hJ.symm|exact⟨hJ.symm,hJ.symm⟩)
  refine .cB (fun h6=>?_) (fun h6=>?_)
  ·refine .rgo [ab_ (h1_ s.expr s2),ab_ (h1_ s.thn s3)] ?_ ?_
   ·(first|trivial|(simp;done)|exact hJ.symm|exact⟨hJ.symm,hJ.symm⟩)
   refine Exists.intro (ca_ s) ⟨?_,?_⟩
   ·rfl
   refine Can.wh ?_;first|trivial|((unfold ca_;simp_all))
  ·refine .seq (.rgo [] ?_ ?_)
   ·(first|trivial|(simp;done)|exact hJ.symm|exact⟨hJ.symm,hJ.symm⟩)
   refine .cB (fun h26=>?_) (fun h26=>?_)
   ·refine .rgo [ab_ (o0_ s.name s1),ab_ (o7_ s.type),ab_ (in_ s.expr s2),ab_ (h1_ s.thn s3)] ?_ ?_
    ·(first|trivial|(simp;done)|exact hJ.symm|exact⟨hJ.symm,hJ.symm⟩)
    refine Exists.intro (ca_ s) ⟨?_,?_⟩
    ·rfl
    refine Can.wh ?_;first|trivial|((unfold ca_;simp_all))
   ·refine .seq (.rgo [] ?_ ?_)
    ·(first|trivial|(simp;done)|exact hJ.symm|exact⟨hJ.symm,hJ.symm⟩)
    refine .cB (fun h46=>?_) (fun h46=>?_)
    ·refine .rgo [ab_ (in_ s.expr s2),ab_ (h1_ s.thn s3)] ?_ ?_
     ·(first|trivial|(simp;done)|exact hJ.symm|exact⟨hJ.symm,hJ.symm⟩)
     refine Exists.intro (ca_ s) ⟨?_,?_⟩
     ·rfl
     refine Can.wh ?_;first|trivial|((unfold ca_;simp_all))
    ·refine .seq (.rgo [] ?_ ?_)
     ·(first|trivial|(simp;done)|exact hJ.symm|exact⟨hJ.symm,hJ.symm⟩)
     refine .cB (fun h66=>?_) (fun h66=>?_)
     ·refine .rgo [ab_ (in_ s.expr s2),ab_ (in_ s.thn s3)] ?_ ?_
      ·(first|trivial|(simp;done)|exact hJ.symm|exact⟨hJ.symm,hJ.symm⟩)
      refine Exists.intro (ca_ s) ⟨?_,?_⟩
      ·rfl
      refine Can.wh ?_;first|trivial|((unfold ca_;simp_all))
     ·refine .skip ?_
      refine Exists.intro (ca_ s) ⟨?_,?_⟩
      ·rfl
      refine Can.wh ?_;first|trivial|((unfold ca_;simp_all))
 cases q
 ·refine .seq (.rgo [a4_ (ca_ s=true) (fun h=>mh_ s h hs),a4_ (ca_ s=true) (fun h=>ew_ (sw' s) (by have:=(sm_ h).1;omega) (by have:=tw_ h;omega))] ?_ ?_)
  ·(first|trivial|(simp;done)|exact hJ.symm|exact⟨hJ.symm,hJ.symm⟩)
  refine .ret ⟨.inr rfl,?_⟩
  exact Out.pl (by simp only[Tryz.results48];rfl) (by simp only[ag_,go_sem,seval]<;>(rw[sok,←hJ];first|rfl|(rw[Bool.true_and,dq_];rfl)))
 ·refine .seq (.rgo [a4_ (ca_ s=true) (fun h=>mh_ s h hs),a4_ (ca_ s=true) (fun h=>ew_ (sw' s) (by have:=(sm_ h).1;omega) (by have:=tw_ h;omega))] ?_ ?_)
  ·(first|trivial|(simp;done)|exact hJ.symm|exact⟨hJ.symm,hJ.symm⟩)
  refine .ret ⟨.inr rfl,?_⟩
  exact Out.pl (by simp only[Tryz.results48];rfl) (by simp only[ag_,go_sem,seval]<;>(rw[sok,←hJ];first|rfl|(rw[Bool.true_and,dq_];rfl)))
end
section
set_option maxRecDepth 100000
theorem t1_ (a b:List Int):inR (a++b)=inR a++inR b:=by simp[inR]
theorem acf_ (l:List Int):(∀r,r∈inR l→r.length=1)=True:=eq_true fun r hr=>by obtain⟨t,_,rfl⟩:=List.mem_map.1 hr;rfl
theorem ab3_ (R:List (List V)) (z:List V) (hR:∀r∈R,r.length=1) (hz:z.length=1) (k j:Nat):((en_ R z k).getD j []).drop 1=[]:=by
 rw[T8_]
 cases h:(en_ R z k)[j]? with
 |none=>rfl
 |some r=>
  have hm:=List.mem_of_getElem? h
  have:r.length=1:=by
   rcases p8_ hm with hm|rfl
   ·exact hR r hm
   ·exact hz
  simp only[Option.getD_some];exact List.drop_of_length_le (by omega)
theorem ail_ {r:List V} {l:List Int} (h:r∈inR l):r.length=1:=by obtain⟨t,_,rfl⟩:=List.mem_map.1 h;rfl
def sR (l:List Sl):List (List V):=l.map sC
theorem ep_ (l:List Sl):(sR l).length=l.length:=by simp[sR]
theorem atn_ (s:Sl):bv_ (sC s)=true:=by rw[br_];simp only[bv_,V.pure,ht_,Bool.and_self]
theorem dx_ (l:List Sl):bh_ (sR l)=true:=ka_.2 fun r hr=>by obtain⟨s,_,rfl⟩:=List.mem_map.1 hr;exact atn_ s
theorem k0_ {l:List Sl} {k:Nat} (h:k<l.length):(sR l).getD k []=sC (l.getD k S0):=by
 simp[sR,T8_,T6_ h]
theorem ayw_ (s:Sl):(sC s).length=11:=by rw[br_];rfl
theorem auu_ (l:List Sl):(∀r,r∈sR l→r.length=11)=True:=eq_true fun r hr=>by obtain⟨s,_,rfl⟩:=List.mem_map.1 hr;exact ayw_ s
theorem aw7_ (a b:List Sl):sR (a++b)=sR a++sR b:=by simp[sR]
def nz_ {α:Type} (p:α→Bool) (l:List α):Int:=if l.any p then(l.findIdx p:Int)else -1
theorem o6_ {α:Type} {p:α→Bool} {l:List α} {k:Nat} {d:α} (h:k<l.length) (h1:(l.take k).any p=false) (h2:p (l.getD k d)=true):nz_ p l=k:=by
 have e:l[k]=l.getD k d:=by simp[T8_,T6_ h]
 have ha:l.any p=true:=List.any_eq_true.2 ⟨l[k],List.getElem_mem h,by rw[e];exact h2⟩
 have hf:l.findIdx p=k:=(List.findIdx_eq h).2 ⟨by rw[e];exact h2,fun j hj=>by
  have h3:=List.any_eq_false.1 h1 l[j] (List.mem_iff_getElem?.2 ⟨j,by rw[List.getElem?_take_of_lt hj,T6_]⟩)
  simpa using h3⟩
 unfold nz_;rw[if_pos ha,hf]
theorem it_ {α:Type} {p:α→Bool} {l:List α} (h:l.any p=false):nz_ p l = -1:=by unfold nz_;rw[h];rfl
theorem i0_ {α:Type} {p:α→Bool} {l:List α} {k:Nat} {d:α} (h:k<l.length):(l.take (k+1)).any p=((l.take k).any p||p (l.getD k d)):=by
 rw[List.take_add_one,T6_ h,List.any_append,T8_,T6_ h];simp
theorem m6_ {α:Type} (p:α→Bool) (l:List α):decide (nz_ p l ≥ 0)=l.any p:=by
 unfold nz_
 cases h:l.any p with
 |true=>rw[if_pos rfl];simp
 |false=>rfl
def oh_ (l:List Sl):Bool:=l.all g6_
theorem zd_ {l:List Sl} (h:oh_ l=true) {k:Nat} (hk:k<l.length):g6_ (l.getD k S0)=true:=List.all_eq_true.1 h _ (am_ hk)
end
section
open Go.RowKit
set_option maxRecDepth 100000
set_option maxHeartbeats 1000000
theorem errU:En.P.underlying 44=some (.interface (En.P.methodsAt 44)):=by kernel_rfl
def intV (o:Option Int):V:=match o with|some n=>.i .i64 n|none=>.no
def kq_ (s:Str):Option Int:=match Lib.atoiAll s with|.ok v=>some v|_=>none
theorem ap7_ (s:Str) (hs:s.length≤281474976710656):ACall En 93 [.s s] [] [intV (kq_ s),ifV (kq_ s).isSome] []:=by
 refine f3_ (fn:=Tryz.f93) Tryz.func93 rfl rfl fun S w xs hx _ ⟨B,hB,_⟩=>?_
 simp only[VRs,VR]at hx
 obtain⟨x,r,e1,rfl,rfl⟩:=hx
 obtain rfl:xs=#[.string ⟨s.toArray⟩]:=by apply Array.ext';simpa using e1
 have hsz:(⟨s.toArray⟩:ByteArray).size≤281474976710656:=by simpa[ByteArray.size]using hs
 have hd:(⟨s.toArray⟩:ByteArray).data.toList=s:=by simp
 cases h:Lib.atoiAll s with
 |ok v=>
  have ho:kq_ s=some v:=by simp[kq_,h]
  refine(Tryz.strconv_Atoi_ok ⟨s.toArray⟩ (by omega) v (by rw[hd];exact h) w).mono ?_
  rintro e w' ⟨rfl,hw⟩
  refine⟨[.int .i64 v,.nilIface],rfl,?_,?_⟩
  ·rcases hw with rfl|⟨t,rfl⟩
   ·exact Below.refl _ _
   ·exact Lib.bytesWorld_below _ _ _
  ·rw[ho];exact .cons (by simp only[intV,VR]) (.cons (by simp[ifV,VR,Value.oneCell']) .nil)
 |range=>
  have ho:kq_ s=none:=by simp[kq_,h]
  obtain⟨tp,p,hv⟩:=hB.rng
  refine(Any.strconv_Atoi_range_var Tryz.laysC172 ⟨s.toArray⟩ hsz (by rw[hd];exact h) tp p w hv).mono ?_
  rintro e w' ⟨N,rfl,_,_,hb⟩
  exact⟨[_,_],rfl,hb,by rw[ho];exact .cons (by simp only[intV,VR]) (.cons (by simp[ifV,VR,Value.oneCell']) .nil)⟩
 |_=>
  have ho:kq_ s=none:=by simp[kq_,h]
  obtain⟨tp,p,hv⟩:=hB.syn
  refine(Any.strconv_Atoi_syntax_var Tryz.laysC172 ⟨s.toArray⟩ hsz (by rw[hd];exact h) tp p w hv).mono ?_
  rintro e w' ⟨N,rfl,_,_,hb⟩
  exact⟨[_,_],rfl,hb,by rw[ho];exact .cons (by simp only[intV,VR]) (.cons (by simp[ifV,VR,Value.oneCell']) .nil)⟩
def kt_ (s:Str):V:=if bd_ s then .i .i64 (av_ s)else .no
theorem kj_ (s:Str):(kt_ s).pure=true:=by unfold kt_;split<;>rfl
theorem x2_ (s:Str):peel (kt_ s)=kt_ s:=by unfold kt_;split<;>rfl
theorem u1_ (s:Str):dj_ (kt_ s)=true:=by unfold kt_;split<;>rfl
theorem aq4_ (v:V):leV v .no=True:=by cases v<;>simp only[leV]
theorem ns_:∀(l:Str) (c:UInt8), -1≤Lib.indexByte l c
 |[],_=>by simp[Lib.indexByte]
 |b::l,c=>by
  have:=ns_ l c
  simp only[Lib.indexByte]
  split
  ·decide
  ·split<;>omega
theorem z8_:∀(l:Str) (c:UInt8),0≤Lib.indexByte l c↔c∈l
 |[],_=>by simp[Lib.indexByte]
 |b::l,c=>by
  have h1:=ns_ l c
  have h2:=z8_ l c
  rw[List.mem_cons,←h2,Lib.indexByte]
  by_cases hb:b=c
  ·subst hb;rw[if_pos (beq_self_eq_true b)];exact⟨fun _=>.inl rfl,fun _=>Int.le_refl _⟩
  ·rw[if_neg (by simpa using hb)]
   by_cases hc:Lib.indexByte l c = -1
   ·rw[if_pos (by rw[hc];rfl),hc];exact⟨fun h=>absurd h (by decide),fun h=>h.elim (fun e=>absurd e.symm hb) id⟩
   ·rw[if_neg (by simpa using hc)];exact⟨fun h=>.inr (by omega),fun h=>h.elim (fun e=>absurd e.symm hb) (fun h=>by omega)⟩
theorem k2_ (l:Str) (c:UInt8):decide (0≤Lib.indexByte l c)=l.contains c:=by
 rw[List.contains_eq_mem];exact decide_eq_decide.2 (z8_ l c)
attribute [local go_sem] intV Option.isSome_none kj_ in
theorem ap6_ (s:Str) (hs:s.length≤281474976710656) (h:kq_ s=none):ACall En 43 [.s s] [] [kt_ s,.b (bd_ s)] []:=by
 have A:=ap7_ s hs
 rw[h]at A
 have hn:bd_ s=false:=ar1_ fun v hv=>by simp[kq_,hv]at h
 refine aa_ [] Tryz.func43 Tryz.ntmps43 fun C=>?_
 refine .seq (.rg [] ?_)
 refine .seq (.rg [ab_ A] ?_)
 refine .seq (.rgS [13] [ifO En 44 false errU,ab_ (sz_ 0 0 1000000),ab_ (q2_ 0 (by decide) (by decide))] ?_)
 refine .ret ⟨.inr rfl,?_⟩
 exact Out.plL (by simp only[Tryz.results43];rfl) (by simp only[ag_,go_sem,seval]<;>(simp[hn,kt_,aq4_]))
attribute [local go_sem] intV Option.isSome_some kj_ in
theorem an2_ (s:Str) (hs:s.length≤281474976710656) {v:Int} (h:kq_ s=some v):ACall En 43 [.s s] [] [kt_ s,.b (bd_ s)] []:=by
 have A:=ap7_ s hs
 rw[h]at A
 have hv:Lib.atoiAll s = .ok v:=by
  unfold kq_ at h
  split at h
  ·rename_i v' hv';cases h;exact hv'
  ·cases h
 refine aa_ [] Tryz.func43 Tryz.ntmps43 fun C=>?_
 refine .seq (.rg [] ?_)
 refine .seq (.rg [ab_ A] ?_)
 refine .seq (.rgS [13] [ifO En 44 true errU,ab_ (sz_ v 0 1000000),a4_ (0≤v∧v≤1000000) (fun h=>q2_ v (by omega) (by omega))] ?_)
 refine .ret ⟨.inr rfl,?_⟩
 exact Out.plL (by simp only[Tryz.results43];rfl) (by simp only[ag_,go_sem,seval]<;>(have k:=avd_ hv;cases hn:bd_ s;(simp only[hn]at k;simp only[kt_,hn];refine⟨?_,?_⟩;(simp only[Bool.false_eq_true,if_false];rw[aq4_];trivial);simpa using k);(have hv2:=ap2_ hv hn;simp only[kt_,hn,if_true];rw[←hv2];simp only[hn]at k;simp only[fp_];simpa using k)))
theorem n9_ (s:Str) (hs:s.length≤281474976710656):ACall En 43 [.s s] [] [kt_ s,.b (bd_ s)] []:=by
 cases h:kq_ s with
 |none=>exact ap6_ s hs h
 |some v=>exact an2_ s hs h
theorem r4_ (s:Str) (c:UInt8):ACall En 127 [.s s,.s [c]] [] [.b (s.contains c)] []:=by
 refine f3_ (fn:=Tryz.f127) Tryz.func127 rfl rfl fun S w xs hx _ ⟨B,hB,_⟩=>?_
 simp only[VRs,VR]at hx
 obtain⟨x,r,e1,rfl,y,q,rfl,rfl,rfl⟩:=hx
 obtain rfl:xs=#[.string ⟨s.toArray⟩,.string ⟨#[c]⟩]:=by apply Array.ext';simpa using e1
 refine(Tryz.strings_Contains_one ⟨s.toArray⟩ c w).mono ?_
 rintro e w' ⟨rfl,rfl⟩
 refine⟨[_],rfl,Below.refl _ _,.cons ?_ .nil⟩
 simp only[VR]
 rw[←k2_]
end
section
set_option maxRecDepth 100000
set_option maxHeartbeats 4000000
attribute [local go_sem] kj_ x2_ u1_ in
theorem aqr_ (s:Str) (hs:s.length≤281474976710656):ACall En 258 [.i .i64 2,.s s] [] [.b (bd_ s)] []:=by
 refine aa_ [] Tryz.func258 Tryz.ntmps258 fun C=>?_
 refine .seq (.rg [] ?_)
 refine .seq (.seq (.rg [] ?_))
 refine .block (.seq (.rg [] ?_))
 refine .cB (fun h8=>?_) (fun h8=>?_)
 ·exact absurd h8 (by simp)
 ·refine .seq (.rg [] ?_)
  refine .cB (fun h20=>?_) (fun h20=>?_)
  ·refine .seq (.rg [ab_ (n9_ s hs)] ?_)
   refine .seq (.rg [] ?_)
   refine .ret ⟨.inr rfl,?_⟩
   exact Out.pl (by simp only[Tryz.results258];rfl) (by simp only[ag_,go_sem,seval]<;>(rfl))
  ·exact absurd h20 (by simp)
theorem afp_ (c:UInt8):ACall En 258 [.i .i64 3,.s [c]] [] [.b (fi_ [c])] []:=by
 refine aa_ [] Tryz.func258 Tryz.ntmps258 fun C=>?_
 refine .seq (.rgo [] ?_ ?_)
 ·(first|trivial|(simp[marks];done))
 refine .seq (.seq (.rgo [] ?_ ?_))
 ·(first|trivial|(simp[marks];done))
 refine .block (.seq (.rgo [] ?_ ?_))
 ·(first|trivial|(simp[marks];done))
 refine .cB (fun h8=>?_) (fun h8=>?_)
 ·exact absurd h8 (by simp)
 ·refine .seq (.rgo [] ?_ ?_)
  ·(first|trivial|(simp[marks];done))
  refine .cB (fun h20=>?_) (fun h20=>?_)
  ·exact absurd h20 (by simp)
  ·refine .seq (.rgo [] ?_ ?_)
   ·(first|trivial|(simp[marks];done))
   refine .cB (fun h28=>?_) (fun h28=>?_)
   ·refine .seq (.rgo [ab_ (r4_ marks c)] ?_ ?_)
    ·(first|trivial|(simp[marks];done))
    refine .ret ⟨.inr rfl,?_⟩
    exact Out.pl (by simp only[Tryz.results258];rfl) (by simp only[ag_,go_sem,seval]<;>(simp[fi_]))
   ·exact absurd h28 (by simp)
theorem ag1_ (s:Str) (h:s.length≠1):ACall En 258 [.i .i64 3,.s s] [] [.b (fi_ s)] []:=by
 have h2:((s.length:Int)==1)=false:=by simpa using(show ¬(s.length:Int)=1 by omega)
 refine aa_ [] Tryz.func258 Tryz.ntmps258 fun C=>?_
 refine .seq (.rgo [] ?_ ?_)
 ·(first|trivial|(simp[h2];done))
 refine .seq (.seq (.rgo [] ?_ ?_))
 ·(first|trivial|(simp[h2];done))
 refine .block (.seq (.rgo [] ?_ ?_))
 ·(first|trivial|(simp[h2];done))
 refine .cB (fun h8=>?_) (fun h8=>?_)
 ·exact absurd h8 (by simp)
 ·refine .seq (.rgo [] ?_ ?_)
  ·(first|trivial|(simp[h2];done))
  refine .cB (fun h20=>?_) (fun h20=>?_)
  ·exact absurd h20 (by simp)
  ·refine .seq (.rgo [] ?_ ?_)
   ·(first|trivial|(simp[h2];done))
   refine .cB (fun h28=>?_) (fun h28=>?_)
   ·refine .seq (.rgo [ab_ (r4_ marks 0)] ?_ ?_)
    ·(first|trivial|(simp[h2];done))
    refine .ret ⟨.inr rfl,?_⟩
    exact Out.pl (by simp only[Tryz.results258];rfl) (by simp only[ag_,go_sem,seval]<;>(simp[fi_,h,h2]))
   ·exact absurd h28 (by simp)
def vo_ (k:Int) (s:Str):Bool:=if k=1 then ev_ s else if k=2 then bd_ s else fi_ s
theorem aul_ (k:Int) (hk:k=1∨k=2∨k=3) (s:Str) (hs:s.length≤281474976710656):ACall En 258 [.i .i64 k,.s s] [] [.b (vo_ k s)] []:=by
 rcases hk with rfl|rfl|rfl
 ·exact afe_ s (by omega)
 ·exact aqr_ s hs
 ·by_cases h:s.length=1
  ·obtain⟨c,rfl⟩:=List.length_eq_one_iff.1 h
   exact afp_ c
  ·exact ag1_ s h
theorem wc_ (s:Str):cu_ s=if vo_ 1 s then 1 else if vo_ 2 s then 2 else if vo_ 3 s then 3 else 0:=rfl
theorem ak6_ (s:Str) (hs:s.length≤281474976710656):ACall En 252 [.s s] [] [.i .i64 (cu_ s)] []:=by
 refine aa_ [] Tryz.func252 Tryz.ntmps252 fun C=>?_
 refine .seq (.rg [] ?_)
 refine .seq (.seq (.rg [] ?_))
 refine .block (.loopK (fun k:Int=>⟨[.s s,.no,.no,.i .i64 k,.no,.no,.no,.no,.no,.no,.no,.no],ak_ [],us []⟩) (fun k:Int=>1≤k∧k≤4∧(1<k→vo_ 1 s=false)∧(2<k→vo_ 2 s=false)∧(3<k→vo_ 3 s=false)) (fun k:Int=>(4 - k).toNat) (1) ?_ ?_ (fun k hI=>?_))
 ·simp
 ·refine Can.wh ?_;first|trivial|(simp)
 refine .seq (.seq (.rg [] ?_))
 refine .cB (fun h5=>?_) (fun h5=>?_)
 ·refine .skip (.seq (.block (.seq (.rgo [a4_ (k=1∨k=2∨k=3) (fun h=>aul_ k h s hs)] ?_ ?_))))
  ·simp at h5;omega
  refine .cB (fun h10=>?_) (fun h10=>?_)
  ·refine .seq (.rg [] ?_)
   refine .ret ⟨.inr rfl,?_⟩
   exact Out.pl (by simp only[Tryz.results252];rfl) (by simp only[ag_,go_sem,seval]<;>(simp at h5;(have hk:k=1∨k=2∨k=3:=by omega);rw[wc_];rcases hk with rfl|rfl|rfl<;>simp_all))
  ·refine .skip (.rg [] ?_)
   refine Exists.intro (k+1) ⟨?_,?_,?_⟩
   ·simp at h5;(have hk:k=1∨k=2∨k=3:=by omega);rcases hk with rfl|rfl|rfl<;>simp_all
   ·simp at h5;omega
   refine Can.wh ?_;first|trivial|(rw[aj_ (by omega) (by omega)])
 ·refine .exit (.seq (.rg [] ?_))
  refine .ret ⟨.inr rfl,?_⟩
  exact Out.pl (by simp only[Tryz.results252];rfl) (by simp only[ag_,go_sem,seval]<;>(simp at h5;(have hk:k=4:=by omega);subst hk;simp_all[wc_]))
def tkR (l:List Tk):List (List V):=l.map fun t=>[.i .i64 t.kind,.s t.s,.i .i64 t.col]
theorem hs_ (l:List Tk):(tkR l).length=l.length:=by simp[tkR]
theorem ft_:∀l:List Tk,bh_ (tkR l)=true
 |[]=>rfl
 |_::r=>by show(bv_ [_,_,_]&&bh_ (tkR r))=true;rw[ft_ r];rfl
theorem u3_ (l:List Tk) (t:Tk):tkR (l++[t])=tkR l++[[.i .i64 t.kind,.s t.s,.i .i64 t.col]]:=by simp[tkR]
theorem amq_ (l:List Tk):(∀r,r∈tkR l→r.length=3)=True:=eq_true fun r hr=>by obtain⟨t,_,rfl⟩:=List.mem_map.1 hr;rfl
theorem s5_ {l:List Tk} {k:Nat} (h:k<l.length):(tkR l).getD k []=[.i .i64 (l.getD k ⟨0,[],0⟩).kind,.s (l.getD k ⟨0,[],0⟩).s,.i .i64 (l.getD k ⟨0,[],0⟩).col]:=by
 simp[tkR,T8_,T6_ h]
attribute [local go_sem] ft_ in
theorem akv_ (l:List Tk) (n:Nat) (hn:n=l.length) (hl:l.length<1099511627776):ACall En 253 [.ow 0 3 0 n] [⟨144,3,tkR l⟩] [.ow 0 3 0 n] [⟨144,3,tkR l⟩]:=by
 refine aa_ [0] Tryz.func253 Tryz.ntmps253 fun C=>?_
 refine .seq (.rgo [] ?_ ?_)
 ·subst hn;simp[hs_]
 refine .seq (.rgo [] ?_ ?_)
 ·subst hn;simp[hs_]
 refine .ret ⟨.inr rfl,?_⟩
 exact Out.mm (by simp only[Tryz.results253];rfl) (by simp only[ag_,rns,rn,go_sem,seval]<;>(simp)) (by simp only[at_,go_sem,seval]<;>(simp[be_,ft_]))
theorem tm_ {l:Str} {k:Nat} (h:k<l.length) (col:Int):fk_ (l.drop k).length (l.drop k) col =
  if l.getD k 0=32 then fk_ (l.drop (k+1)).length (l.drop (k+1)) (col+1)
  else if cu_ ((l.drop k).take (d2_ (l.drop k)))=0 then none
  else(fk_ (l.drop (k+d2_ (l.drop k))).length (l.drop (k+d2_ (l.drop k))) (col+d2_ (l.drop k))).map (⟨cu_ ((l.drop k).take (d2_ (l.drop k))),(l.drop k).take (d2_ (l.drop k)),col⟩::·):=by
 have e:l.drop k=l.getD k 0::l.drop (k+1):=by
  rw[List.drop_eq_getElem_cons h,T8_,T6_ h];rfl
 have h2:=m4_ (l.getD k 0) (l.drop (k+1)) col
 rw[←e,List.drop_drop]at h2
 exact h2
theorem jt_ {l:Str} {k:Nat} (h:k<l.length):l.getD k 0=32↔((l.getD k 0).toNat:Int)=32:=by
 constructor
 ·intro e;rw[e];rfl
 ·intro e;apply UInt8.toNat_inj.1;show _=32;omega
theorem wl_b {s:Str} {k:Nat} (h:k<s.length):1≤d2_ (s.drop k)∧k+d2_ (s.drop k)≤s.length:=by
 have h1:=qb_ (s.drop k)
 have h2:=asz_ (l:=s.drop k) (fun e=>by have:=congrArg List.length e;rw[List.length_drop]at this;simp only[List.length_nil]at this;omega)
 rw[List.length_drop]at h2
 omega
theorem vp_ (s:Str) (k w:Nat):(s.take (k+w)).drop k=(s.drop k).take w:=by rw[List.drop_take,Nat.add_sub_cancel_left]
theorem aya_ (r:Str):(if ((r.takeWhile b1_).length:Int) > (if ((r.takeWhile ch_).length:Int) > 1 then((r.takeWhile ch_).length:Int)else 1)then((r.takeWhile b1_).length:Int)else(if ((r.takeWhile ch_).length:Int) > 1 then((r.takeWhile ch_).length:Int)else 1))=(d2_ r:Int):=by
 unfold d2_
 split<;>split at *<;>omega
theorem py_ {s:Str} (h:120<s.length):a1_ s=none:=by rw[a1_,if_pos h]
theorem il_ {s:Str} (h:s.length≤120):a1_ s=fk_ s.length s 0:=by rw[a1_,if_neg (by omega)]
theorem y2_ {s:Str} {k:Nat} (h:s.length≤k) (c:Int):fk_ (s.drop k).length (s.drop k) c=some []:=by rw[List.drop_of_length_le h];rfl
attribute [local go_sem] ft_ hs_ in
theorem xl_ (s:Str) (hs:s.length≤281474976710656):ACall En 194 [.s s] [] [.sl false (tkR ((a1_ s).getD [])),.b (a1_ s).isSome] []:=by
 refine aa_ [] Tryz.func194 Tryz.ntmps194 fun C=>?_
 refine .seq (.rg [] ?_)
 refine .seq (.seq (.rg [] ?_))
 refine .cB (fun h10=>?_) (fun h10=>?_)
 ·refine .seq (.rg [] ?_)
  refine .ret ⟨.inr rfl,?_⟩
  exact Out.plL (by simp only[Tryz.results194];rfl) (by simp only[ag_,go_sem,seval]<;>(simp at h10;rw[py_ (by omega)];simp[tkR,ler]))
 ·refine .skip (.seq (.rg [] ?_))
  refine .seq (.seq (.rg [] ?_))
  refine .block (.loopK (fun k:Nat × List Tk=>⟨[.s s,.no,.no,.no,.ow 20 3 0 k.2.length,.i .i64 k.1,.no,.no,.no,.no,.no,.no,.no,.no,.no,.no,.no,.no,.no,.no,.no,.no,.no,.no,.no,.no,.no,.no,.no,.no,.no,.no,.no,.no,.no,.no,.no,.no,.no,.no,.no,.no,.no,.no,.no,.no,.no,.no,.no,.no,.no,.no,.no,.no,.no,.no,.no],ak_ [(20,⟨144,3,tkR k.2⟩)],us [20]⟩) (fun k:Nat × List Tk=>k.1≤s.length∧s.length≤120∧k.2.length≤k.1∧fk_ s.length s 0=(fk_ (s.drop k.1).length (s.drop k.1) k.1).map (k.2++·)) (fun k:Nat × List Tk=>s.length - k.1) ((0,[])) ?_ ?_ (fun k hI=>?_))
  ·simp at h10;simp;omega
  ·refine Can.trans (Can.ownSlot 4 20 144 3 (by simp only[go_sem,seval]<;>rfl) (by simp only[go_sem,seval]) (by simp only[go_sem,seval]<;>rfl)) ?_
   refine Can.wk ?_ ?_
   ·first|trivial|(rfl)
   ·first|trivial|(rfl)
  refine .seq (.seq (.rg [] ?_))
  refine .cB (fun h14=>?_) (fun h14=>?_)
  ·refine .skip (.block (.seq (.seq (.rgo [] ?_ ?_))))
   ·simp at h14;simp;exact h14
   refine .cB (fun h18=>?_) (fun h18=>?_)
   ·refine .seq (.rg [] ?_)
    refine .exit ?_
    refine Exists.intro ((k.1+1,k.2)) ⟨?_,?_,?_⟩
    ·simp only[T3_]at h14;simp only[beq_iff_eq]at h18;obtain⟨i1,i2,i3,i4⟩:=hI;have e:=tm_ (show k.1<s.length by omega) k.1;rw[if_pos ((jt_ (by omega)).2 h18)]at e;exact⟨by dsimp only;omega,i2,by dsimp only;omega,by rw[i4,e];rfl⟩
    ·simp only[T3_]at h14;dsimp only;omega
    refine Can.wh ?_;first|trivial|(rw[aj_ (by omega) (by omega)];rfl)
   ·refine .skip (.seqJ (fun u:Unit=>⟨[.s s,.no,.no,.no,.ow 20 3 0 k.2.length,.i .i64 k.1,.i .i64 (d2_ (s.drop k.1)),.no,.no,.no,.no,.no,.no,.no,.no,.no,.no,.no,.no,.no,.no,.no,.no,.no,.no,.no,.no,.no,.no,.no,.no,.no,.no,.no,.no,.no,.no,.no,.no,.no,.no,.no,.no,.no,.no,.no,.no,.no,.no,.no,.no,.no,.no,.no,.no,.no,.no],ak_ [(20,⟨144,3,tkR k.2⟩)],us [20]⟩) (fun u:Unit=>True) ?_ (fun u hJ=>?_))
    ·refine .rgDSo [29] [ab_ (apu_ ch_ 250 v0_ (s.drop k.1) (by simp;omega)),ab_ (apu_ b1_ 251 alo_ (s.drop k.1) (by simp;omega)),maxO En] ?_ ?_
     ·simp at h14;simp;omega
     refine Exists.intro (()) ⟨?_,?_⟩
     ·trivial
     refine Can.wh ?_;first|trivial|(rw[aya_])
    refine .seq (.rgDo [ab_ (ak6_ ((s.drop k.1).take (d2_ (s.drop k.1))) (by simp;omega))] ?_ ?_ (h:=by simp only[go_sem,seval,show IntKind.i64.wrap ((k.1:Int)+(d2_ (s.drop k.1):Int))=((k.1+d2_ (s.drop k.1):Nat):Int) by(have:=wl_b (show k.1<s.length by simpa using h14);rw[aj_ (by omega) (by omega)];rfl),vp_];rfl))
    ·have h14':k.1<s.length:=(by simpa using h14);have:=wl_b h14';simp[a7_];omega
    refine .seq (.seq (.rg [] ?_))
    refine .cB (fun h47=>?_) (fun h47=>?_)
    ·refine .seq (.rg [] ?_)
     refine .ret ⟨.inr rfl,?_⟩
     exact Out.plL (by simp only[Tryz.results194];rfl) (by simp only[ag_,go_sem,seval]<;>(simp only[T3_]at h14;simp only[beq_eq_false_iff_ne]at h18;simp only[beq_iff_eq]at h47;have e:=tm_ (show k.1<s.length by omega) k.1;rw[if_neg (fun h=>h18 ((jt_ (by omega)).1 h)),if_pos h47]at e;rw[il_ (by omega),hI.2.2.2,e];simp[tkR,ler]))
    ·refine .skip (.seq (.rgo [] ?_ ?_))
     ·simp[amq_];omega
     refine .rg [] ?_
     refine Exists.intro ((k.1+d2_ (s.drop k.1),k.2++[⟨cu_ ((s.drop k.1).take (d2_ (s.drop k.1))),(s.drop k.1).take (d2_ (s.drop k.1)),k.1⟩])) ⟨?_,?_,?_⟩
     ·simp only[T3_]at h14;simp only[beq_eq_false_iff_ne]at h18 h47;obtain⟨i1,i2,i3,i4⟩:=hI;have e:=tm_ (show k.1<s.length by omega) k.1;rw[if_neg (fun h=>h18 ((jt_ (by omega)).1 h)),if_neg h47]at e;have hb:=wl_b (show k.1<s.length by omega);exact⟨by dsimp only;omega,i2,by simp only[T2_,List.length_singleton];omega,by rw[i4,e,Option.map_map];simp[Function.comp_def]⟩
     ·simp only[T3_]at h14;have hb:=wl_b (show k.1<s.length by omega);dsimp only;omega
     refine Can.trans (Can.sX 61 20) ?_
     refine Can.wk ?_ ?_
     ·first|trivial|((have hb:=wl_b (show k.1<s.length by simpa using h14));rw[aj_ (by omega) (by omega)];simp)
     ·first|trivial|(rw[u3_])
  ·refine .exit (.seq (.rgo [bf_ [20] [] (akv_ k.2 k.2.length rfl (by omega))] ?_ ?_))
   ·simp[at_,bm_,ft_]
   refine .fX 20 ?_
   refine .ret ⟨.inr rfl,?_⟩
   exact Out.plL (by simp only[Tryz.results194];rfl) (by simp only[ag_,go_sem,seval]<;>(simp only[T4_]at h14;rw[il_ (by omega),hI.2.2.2,y2_ (by omega)];simp[T1_,hs_,leV,af_]))
end
section
def shf (k:Int) (l:Wd):Wd:=l.map fun p=>if 0≤p.2 then(p.1,p.2+k)else p
theorem asl_ (k:Int) (a b:Wd):shf k (a++b)=shf k a++shf k b:=by simp[shf]
theorem ig_ (k:Int) (a:Wd):(shf k a).length=a.length:=by simp[shf]
theorem pl_ (a:Wd):shf 0 a=a:=by
 unfold shf
 conv=>rhs;rw[←List.map_id a]
 congr 1;funext p
 split<;>simp
theorem aan_ (k:Int) (a:Wd):(shf k a).map (·.1)=a.map (·.1):=by
 unfold shf;rw[List.map_map];congr 1;funext p;simp only[Function.comp];split<;>rfl
mutual
def l8:E→Int→Int→Wd
 |.mk k n s kids,t,b=>
  if k=1 then [(Go.Lib.decDigits n.toNat,0)]
  else if k=2 then [(s,0)]
  else if k=3 then brk (decide (ap_ s<b)) (shf (if ap_ s<t then 1 else 0) (l8A kids (max 2 (ap_ s)) (max 2 (ap_ s))++(s,wlA kids (max 2 (ap_ s)))::shf (wlA kids (max 2 (ap_ s))+1) (l8B kids (ap_ s+1))))
  else if k=4 then l8A kids 4 b
  else []
def l8A:List E→Int→Int→Wd
 |[],_,_=>[]
 |e::_,t,b=>l8 e t b
def l8B:List E→Int→Wd
 |[],_=>[]
 |_::r,t=>l8A r t t
def wlA:List E→Int→Int
 |[],_=>0
 |e::_,t=>(wds e t).length
end
theorem arx_ {e:E} (h:e.kind=1) (t b:Int):l8 e t b=[(Go.Lib.decDigits e.n.toNat,0)]:=by
 cases e;simp only[E.kind]at h;subst h;simp[l8,E.n]
theorem ah5_ {e:E} (h:e.kind=2) (t b:Int):l8 e t b=[(e.s,0)]:=by
 cases e;simp only[E.kind]at h;subst h;simp[l8,E.s]
theorem any_ {e:E} (h:e.kind=3) (hl:e.kids.length=2) (t b:Int):l8 e t b=brk (decide (ap_ e.s<b)) (shf (if ap_ e.s<t then 1 else 0) (l8 (e.kids.getD 0 E0) (max 2 (ap_ e.s)) (max 2 (ap_ e.s))++(e.s,((wds (e.kids.getD 0 E0) (max 2 (ap_ e.s))).length:Int))::shf ((wds (e.kids.getD 0 E0) (max 2 (ap_ e.s))).length+1) (l8 (e.kids.getD 1 E0) (ap_ e.s+1) (ap_ e.s+1)))):=by
 cases e with
 |mk k n s kids=>
  simp only[E.kind]at h;subst h
  simp only[E.kids]at hl
  match kids,hl with
  |[x,y],_=>simp[l8,l8A,l8B,wlA,E.s,E.kids];rfl
theorem awi_ {e:E} (h:e.kind=4) (hl:e.kids.length=1) (t b:Int):l8 e t b=l8 (e.kids.getD 0 E0) 4 b:=by
 cases e with
 |mk k n s kids=>
  simp only[E.kind]at h;subst h
  simp only[E.kids]at hl
  match kids,hl with
  |[a],_=>simp[l8,l8A,E.kids]
def Trc (L:Wd):Wd→Wd→Prop
 |[],[]=>True
 |w::B,c::C=>c.1=w.1∧((w.2 = -1∧c.2 = -1)∨(0≤w.2∧0≤c.2∧L[c.2.toNat]? = some w))∧Trc L B C
 |_,_=>False
theorem Trc.app {L:Wd}:∀ {B C B' C':Wd},Trc L B C→Trc L B' C'→Trc L (B++B') (C++C')
 |[],[],_,_,_,h=>h
 |[],_::_,_,_,h,_=>by simp[Trc]at h
 |_::_,[],_,_,h,_=>by simp[Trc]at h
 |w::B,c::C,B',C',h,k=>by
  simp only[Trc]at h
  simp only[List.cons_append,Trc]
  exact⟨h.1,h.2.1,h.2.2.app k⟩
theorem Trc.shf {L P:Wd}:∀ {B C:Wd},Trc L B C→Trc (P++L) B (Go.Proofs.YthjccajoadjicaaGreatDoor.shf P.length C)
 |[],[],_=>by simp[Go.Proofs.YthjccajoadjicaaGreatDoor.shf,Trc]
 |[],_::_,h=>by simp[Trc]at h
 |_::_,[],h=>by simp[Trc]at h
 |w::B,c::C,h=>by
  simp only[Trc]at h
  have ih:=h.2.2.shf (P:=P)
  simp only[Go.Proofs.YthjccajoadjicaaGreatDoor.shf,List.map_cons,Trc]at ih ⊢
  rcases h.2.1 with⟨h1,h2⟩|⟨h1,h2,h3⟩
  ·rw[if_neg (by omega)];exact⟨h.1,.inl ⟨h1,h2⟩,ih⟩
  ·rw[if_pos h2]
   refine⟨h.1,.inr ⟨h1,by dsimp only;omega,?_⟩,ih⟩
   dsimp only
   rw[show(c.2+(P.length:Int)).toNat=P.length+c.2.toNat by omega,List.getElem?_append_right (by omega),Nat.add_sub_cancel_left]
   exact h3
theorem Trc.right {L Q:Wd}:∀ {B C:Wd},Trc L B C→Trc (L++Q) B C
 |[],[],_=>by simp[Trc]
 |[],_::_,h=>by simp[Trc]at h
 |_::_,[],h=>by simp[Trc]at h
 |w::B,c::C,h=>by
  simp only[Trc]at h ⊢
  refine⟨h.1,?_,h.2.2.right⟩
  rcases h.2.1 with h1|⟨h1,h2,h3⟩
  ·exact .inl h1
  ·exact .inr ⟨h1,h2,by rw[List.getElem?_append_left (List.getElem?_eq_some_iff.1 h3).1];exact h3⟩
theorem Trc.brk {L B C:Wd} (b:Bool) (h:Trc L B C):Trc L (Go.Proofs.YthjccajoadjicaaGreatDoor.brk b B) (Go.Proofs.YthjccajoadjicaaGreatDoor.brk b C):=by
 cases b with
 |false=>exact h
 |true=>
  simp only[Go.Proofs.YthjccajoadjicaaGreatDoor.brk,if_true,Trc]
  refine⟨trivial,.inl ⟨trivial,trivial⟩,h.app ?_⟩
  simp[Trc]
theorem ac9_ {e:E} (h:e.kind=1∨e.kind=2) (hl:e.kids=[]):cnt e=1:=by
 cases e;simp only[E.kind,E.kids]at h hl;subst hl;rcases h with h|h<;>subst h<;>simp[cnt,wv_]
theorem l3_:∀(d:Nat) (e:E),form e d=true→cnt (bare e)=cnt e
 |0,e,h=>by have:=(ar_ h).1;omega
 |d+1,e,h=>by
  have e1:((d+1:Nat):Int) - 1=(d:Int):=by omega
  obtain⟨h0,h1|h1|h1|h1⟩:=ar_ h
  ·rw[f6_ (by omega) h1.2.2.2.2]
  ·rw[f6_ (by omega) h1.2.2.2]
  ·obtain⟨k,hn,ho,hl,ha,hb⟩:=h1
   rw[e1]at ha hb
   rw[ps_ k hl,pd_ (e:=.mk 3 e.n e.s [_,_]) rfl rfl,pd_ k hl]
   show 1+cnt (bare (e.kids.getD 0 E0))+cnt (bare (e.kids.getD 1 E0))=_
   rw[l3_ d _ ha,l3_ d _ hb]
  ·obtain⟨k,hn,ho,hl,ha⟩:=h1
   rw[e1]at ha
   rw[s3_ k hl,aay_ k hl,l3_ d _ ha]
theorem td_ {e:E} (h:e.kind=1) (must nx:Int):src e must nx=[(Go.Lib.decDigits e.n.toNat,nx)]:=by
 cases e;simp only[E.kind]at h;subst h;simp[src,E.n]
theorem oc_ {e:E} (h:e.kind=2) (must nx:Int):src e must nx=[(e.s,nx)]:=by
 cases e;simp only[E.kind]at h;subst h;simp[src,E.s]
theorem qp_ (e:E) (must nx:Int):(src e must nx).length=(wds e must).length:=by
 rw[←ek_ e must nx,List.length_map]
theorem k5_:∀(d:Nat) (e:E) (t b nx:Int),form e d=true→t≤4→b≤4→0≤nx→Trc (src e t nx) (src (bare e) b nx) (l8 e t b)
 |0,e,t,b,nx,h,_,_,_=>by have:=(ar_ h).1;omega
 |d+1,e,t,b,nx,h,ht,hb4,hn0=>by
  have e1:((d+1:Nat):Int) - 1=(d:Int):=by omega
  obtain⟨h0,h1|h1|h1|h1⟩:=ar_ h
  ·rw[f6_ (by omega) h1.2.2.2.2,td_ h1.1,td_ h1.1,arx_ h1.1]
   simp[Trc,hn0]
  ·rw[f6_ (by omega) h1.2.2.2,oc_ h1.1,oc_ h1.1,ah5_ h1.1]
   simp[Trc,hn0]
  ·obtain⟨k,hn,ho,hl,ha,hb⟩:=h1
   rw[e1]at ha hb
   have htt:=by_ ho
   have A:=k5_ d _ (max 2 (ap_ e.s)) (max 2 (ap_ e.s)) (nx+1) ha (by omega) (by omega) (by omega)
   have hc:=cv_ d _ 0 ha
   have B:=k5_ d _ (ap_ e.s+1) (ap_ e.s+1) (nx+1+cnt (e.kids.getD 0 E0)) hb (by omega) (by omega) (by omega)
   rw[ps_ k hl,jr_ k hl,jr_ (e:=.mk 3 e.n e.s [_,_]) rfl rfl,any_ k hl]
   refine Trc.brk _ ?_
   show Trc _ (src (bare (e.kids.getD 0 E0)) (max 2 (ap_ e.s)) (nx+1)++(e.s,nx)::src (bare (e.kids.getD 1 E0)) (ap_ e.s+1) (nx+1+cnt (bare (e.kids.getD 0 E0)))) _
   rw[l3_ d _ ha]
   have core:Trc (src (e.kids.getD 0 E0) (max 2 (ap_ e.s)) (nx+1)++(e.s,nx)::src (e.kids.getD 1 E0) (ap_ e.s+1) (nx+1+cnt (e.kids.getD 0 E0)))
     (src (bare (e.kids.getD 0 E0)) (max 2 (ap_ e.s)) (nx+1)++(e.s,nx)::src (bare (e.kids.getD 1 E0)) (ap_ e.s+1) (nx+1+cnt (e.kids.getD 0 E0)))
     (l8 (e.kids.getD 0 E0) (max 2 (ap_ e.s)) (max 2 (ap_ e.s))++(e.s,((wds (e.kids.getD 0 E0) (max 2 (ap_ e.s))).length:Int))::shf ((wds (e.kids.getD 0 E0) (max 2 (ap_ e.s))).length+1) (l8 (e.kids.getD 1 E0) (ap_ e.s+1) (ap_ e.s+1))):=by
    refine A.right.app ?_
    have B2:=B.shf (P:=src (e.kids.getD 0 E0) (max 2 (ap_ e.s)) (nx+1)++[(e.s,nx)])
    rw[T2_,qp_,List.length_singleton,List.append_assoc,List.singleton_append]at B2
    simp only[Trc]
    refine⟨trivial,.inr ⟨hn0,by omega,?_⟩,by simpa using B2⟩
    rw[Int.toNat_natCast,←qp_ _ _ (nx+1),List.getElem?_append_right (Nat.le_refl _),Nat.sub_self];rfl
   cases hlt:decide (ap_ e.s<t)with
   |false=>
    simp only[T4_]at hlt
    rw[if_neg hlt,pl_];exact core
   |true=>
    simp only[T3_]at hlt
    rw[if_pos hlt]
    have:=(core.shf (P:=[([40], -1)])).right (Q:=[([41], -1)])
    simpa[brk]using this
  ·obtain⟨k,hn,ho,hl,ha⟩:=h1
   rw[e1]at ha
   rw[s3_ k hl,rf_ k hl,awi_ k hl]
   exact(k5_ d _ 4 b nx ha (by omega) hb4 hn0).right
theorem Trc.fst {L:Wd}:∀ {B C:Wd},Trc L B C→C.map (·.1)=B.map (·.1)
 |[],[],_=>rfl
 |[],_::_,h=>by simp[Trc]at h
 |_::_,[],h=>by simp[Trc]at h
 |w::B,c::C,h=>by
  simp only[Trc]at h
  simp only[List.map_cons,h.1,h.2.2.fst]
def ids (l:Wd):List Int:=(l.map (·.2)).filter fun k=>decide (0≤k)
theorem s2_ (a b:Wd):ids (a++b)=ids a++ids b:=by simp[ids]
theorem kd_ (p:Str × Int) (b:Wd):ids (p::b)=if 0≤p.2 then p.2::ids b else ids b:=by
 simp only[ids,List.map_cons,List.filter_cons,T3_]
theorem ajs_:ids []=[]:=rfl
theorem avp_ (b:Bool) (l:Wd):ids (brk b l)=ids l:=by
 cases b<;>simp[brk,s2_,kd_,ajs_]
theorem tu_:∀(d:Nat) (e:E) (must nx:Int),form e d=true→0≤nx→(ids (src e must nx)).Nodup∧∀i∈ids (src e must nx),nx≤i∧i<nx+cnt e
 |0,e,must,nx,h,_=>by have:=(ar_ h).1;omega
 |d+1,e,must,nx,h,hn0=>by
  have e1:((d+1:Nat):Int) - 1=(d:Int):=by omega
  obtain⟨h0,h1|h1|h1|h1⟩:=ar_ h
  ·rw[td_ h1.1,ac9_ (.inl h1.1) h1.2.2.2.2];simp[ids,hn0];omega
  ·rw[oc_ h1.1,ac9_ (.inr h1.1) h1.2.2.2];simp[ids,hn0];omega
  ·obtain⟨k,hn,ho,hl,ha,hb⟩:=h1
   rw[e1]at ha hb
   have hc:=cv_ d _ 0 ha
   have hc2:=cv_ d _ 0 hb
   obtain⟨a1,a2⟩:=tu_ d _ (max 2 (ap_ e.s)) (nx+1) ha (by omega)
   obtain⟨b1,b2⟩:=tu_ d _ (ap_ e.s+1) (nx+1+cnt (e.kids.getD 0 E0)) hb (by omega)
   rw[jr_ k hl,avp_,s2_,kd_,if_pos hn0,pd_ k hl]
   refine⟨?_,fun i hi=>?_⟩
   ·rw[List.nodup_append]
    refine⟨a1,List.nodup_cons.2 ⟨fun hm=>by have:=b2 _ hm;omega,b1⟩,fun x hx y hy=>?_⟩
    have q1:=a2 x hx
    rcases List.mem_cons.1 hy with rfl|hy
    ·omega
    ·have q2:=b2 y hy;omega
   ·rcases List.mem_append.1 hi with hi|hi
    ·have:=a2 i hi;omega
    ·rcases List.mem_cons.1 hi with rfl|hi
     ·omega
     ·have:=b2 i hi;omega
  ·obtain⟨k,hn,ho,hl,ha⟩:=h1
   rw[e1]at ha
   rw[rf_ k hl,s2_,aay_ k hl]
   have:=tu_ d _ 4 nx ha hn0
   have e2:ids [([97,115], -1),(e.s, -1)]=[]:=by simp[ids]
   rw[e2,List.append_nil];exact this
def gp_:Int→Wd→Int→Int
 |_,[],_=> -1
 |c,w::r,i=>if w.2=i then c else gp_ (c+w.1.length+1) r i
def h5_ (l:Wd):Int:=(wid (l.map (·.1)):Int)
theorem w9_ (w:Str × Int) (l:Wd):h5_ (w::l)=w.1.length+1+h5_ l:=by simp[h5_,ki_]
theorem p6_ (a b:Wd):h5_ (a++b)=h5_ a+h5_ b:=by simp[h5_,kv_]
theorem o9_:h5_ []=0:=rfl
theorem wn_ (l:Wd):0≤h5_ l:=by unfold h5_;omega
theorem rd_ (i:Int):∀(a b:Wd) (c:Int),gp_ c (a++b) i=if i∈a.map (·.2)then gp_ c a i else gp_ (c+h5_ a) b i
 |[],b,c=>by simp[o9_]
 |w::a,b,c=>by
  have ih:=rd_ i a b (c+w.1.length+1)
  simp only[List.cons_append,gp_,List.map_cons,List.mem_cons]
  by_cases h:w.2=i
  ·simp[h]
  ·have h':¬i=w.2:=fun e=>h e.symm
   simp only[h,if_false,h',false_or,ih,w9_]
   split
   ·rfl
   ·congr 1;omega
theorem rc_ (i:Int) (d:Int):∀(a:Wd) (c:Int),i∈a.map (·.2)→gp_ (c+d) a i=gp_ c a i+d
 |[],c,h=>by simp at h
 |w::a,c,h=>by
  simp only[gp_]
  by_cases e:w.2=i
  ·rw[if_pos e,if_pos e]
  ·rw[if_neg e,if_neg e]
   simp only[List.map_cons,List.mem_cons]at h
   have:=rc_ i d a (c+w.1.length+1) (h.resolve_left fun q=>e q.symm)
   rw[←this];congr 1;omega
theorem aaj_ {l:Wd} {i:Int}:i∈ids l↔i∈l.map (·.2)∧0≤i:=by simp[ids]
theorem pn_:∀ {l:Wd} {j:Nat} {w:Str × Int} (c:Int),(ids l).Nodup→l[j]? = some w→0≤w.2→(b3_ c (l.map (·.1)))[j]? = some (gp_ c l w.2)
 |[],j,w,c,_,h,_=>by simp at h
 |v::l,0,w,c,_,h,_=>by
  simp only[List.getElem?_cons_zero,Option.some.injEq]at h;subst h
  simp[b3_,gp_]
 |v::l,j+1,w,c,hn,h,h0=>by
  simp only[List.getElem?_cons_succ]at h
  have hm:w.2∈ids l:=aaj_.2 ⟨List.mem_map.2 ⟨w,List.mem_of_getElem? h,rfl⟩,h0⟩
  rw[kd_]at hn
  have hne:v.2≠w.2:=fun e=>by
   rw[if_pos (by omega)]at hn
   exact(List.nodup_cons.1 hn).1 (by rw[e];exact hm)
  have hn':(ids l).Nodup:=by
   split at hn
   ·exact(List.nodup_cons.1 hn).2
   ·exact hn
  simp only[List.map_cons,b3_,List.getElem?_cons_succ,gp_,if_neg hne]
  exact pn_ _ hn' h h0
theorem ym_:∀(M:List (Int × Int)) (k v i:Int),ma_ (nb_ M k v) i=if i=k then some v else ma_ M i
 |[],k,v,i=>by simp[nb_,ma_]
 |(a,b)::M,k,v,i=>by
  have ih:=ym_ M k v i
  simp only[nb_]
  by_cases h:k=a
  ·subst h
   simp only[if_true,ma_]
   split<;>rfl
  ·rw[if_neg h]
   simp only[ma_,ih]
   by_cases e:i=a
   ·rw[if_pos e,if_neg (fun q=>h (q.symm.trans e)),if_pos e]
   ·rw[if_neg e,if_neg e]
def sw_ (l:Wd) (k:Nat):List (Int × Int):=(((l.map (·.2)).zip (b3_ 0 (l.map (·.1)))).take k).foldl (fun M p=>nb_ M p.1 p.2) []
theorem cm_:∀(c:Int) (l:List Str),(b3_ c l).length=l.length
 |_,[]=>rfl
 |c,w::r=>by simp only[b3_,T7_,cm_]
theorem al2_ (l:Wd):sw_ l 0=[]:=rfl
theorem akk_ {l:Wd} {k:Nat} (h:k<l.length):sw_ l (k+1)=nb_ (sw_ l k) (l.getD k ([],0)).2 ((b3_ 0 (l.map (·.1))).getD k 0):=by
 have h2:k<((l.map (·.2)).zip (b3_ 0 (l.map (·.1)))).length:=by rw[List.length_zip,List.length_map,cm_,List.length_map];omega
 have h3:k<(b3_ 0 (l.map (·.1))).length:=by rw[cm_,List.length_map];exact h
 unfold sw_
 rw[List.take_add_one,T6_ h2,List.foldl_append]
 simp[T8_,T6_ h,T6_ h3]
theorem xd_ (i v:Int):∀(Z M:List (Int × Int)),(∀c,(i,c)∈Z→c=v)→((i,v)∈Z∨ma_ M i=some v)→ma_ (Z.foldl (fun M p=>nb_ M p.1 p.2) M) i=some v
 |[],M,_,h=>by simpa using h
 |(a,b)::Z,M,hu,h=>by
  refine xd_ i v Z _ (fun c hc=>hu c (List.mem_cons_of_mem _ hc)) ?_
  rw[ym_]
  by_cases e:i=a
  ·subst e
   have:=hu b List.mem_cons_self
   subst this
   right;simp
  ·rw[if_neg e]
   rcases h with h|h
   ·rcases List.mem_cons.1 h with h|h
    ·simp only[Prod.mk.injEq]at h;exact absurd h.1 e
    ·exact .inl h
   ·exact .inr h
theorem an4_ {l:Wd} (hn:(ids l).Nodup) {i:Int} (hi:i∈ids l):ma_ (sw_ l l.length) i=some (gp_ 0 l i):=by
 obtain⟨hm,h0⟩:=aaj_.1 hi
 obtain⟨w,hw,hwi⟩:=List.mem_map.1 hm
 have hz:∀c,(i,c)∈(l.map (·.2)).zip (b3_ 0 (l.map (·.1)))→c=gp_ 0 l i:=fun c hc=>by
  obtain⟨j,hj⟩:=List.mem_iff_getElem?.1 hc
  rw[List.getElem?_zip_eq_some]at hj
  obtain⟨j1,j2⟩:=hj
  rw[List.getElem?_map]at j1
  obtain⟨u,u1,u2⟩:=Option.map_eq_some_iff.1 j1
  have:=pn_ 0 hn u1 (by rw[u2];exact h0)
  rw[j2,u2]at this
  exact Option.some.inj this
 unfold sw_
 rw[T1_ (by rw[List.length_zip,List.length_map];omega)]
 refine xd_ i _ _ _ hz (.inl ?_)
 obtain⟨j,hj⟩:=List.mem_iff_getElem?.1 hw
 have:=pn_ 0 hn hj (by rw[hwi];exact h0)
 rw[hwi]at this
 refine List.mem_iff_getElem?.2 ⟨j,?_⟩
 rw[List.getElem?_zip_eq_some]
 exact⟨by rw[List.getElem?_map,hj];simp[hwi],this⟩
theorem qf_:∀(l:List Str) (c:Int) {k:Nat},k<l.length→(b3_ c l).getD k 0=c+wid (l.take k)
 |[],c,k,h=>by simp at h
 |w::r,c,0,_=>by simp[b3_,aas_]
 |w::r,c,k+1,h=>by
  have:=qf_ r (c+w.length+1) (k:=k) (by simpa using h)
  simp only[b3_,List.getD_cons_succ,List.take_succ_cons,ki_,this]
  omega
theorem aot_ {l:List Str} {k:Nat} (h:k<l.length):wid (l.take (k+1))=wid (l.take k)+((l.getD k []).length+1):=by
 rw[List.take_add_one,T6_ h,kv_,T8_,T6_ h];rfl
theorem asd_ (l:List Str) (k:Nat):wid (l.take k)≤wid l:=by
 conv=>rhs;rw[←List.take_append_drop k l]
 rw[kv_];omega
theorem Trc.lt {L:Wd}:∀ {B C:Wd},Trc L B C→∀p∈C, -1≤p.2∧p.2<(L.length:Int)
 |[],[],_=>by simp
 |[],_::_,h=>by simp[Trc]at h
 |_::_,[],h=>by simp[Trc]at h
 |w::B,c::C,h=>by
  simp only[Trc]at h
  intro p hp
  rcases List.mem_cons.1 hp with rfl|hp
  ·rcases h.2.1 with⟨_,h2⟩|⟨_,h2,h3⟩
   ·omega
   ·have:=(List.getElem?_eq_some_iff.1 h3).1;omega
  ·exact h.2.2.lt p hp
theorem Trc.len {L:Wd} {B C:Wd} (h:Trc L B C):C.length=B.length:=by
 have:=congrArg List.length h.fst;simpa using this
theorem kl_ (d:Nat) (e:E) (h:form e d=true) (hm:many e d≤1000) (m:Int):(wds e m).length≤3000:=by
 have:=cv_ d e m h;omega
theorem px_ {d:Nat} {e:E} {t b:Int} (h:form e d=true) (hm:many e d≤1000) (ht:t≤4) (hb:b≤4):(l8 e t b).length≤3000∧∀p∈l8 e t b, -1≤p.2∧p.2≤3000:=by
 have T:=k5_ d e t b 0 h ht hb (by decide)
 have h1:=f7_ d e h
 have q1:=kl_ d e h hm t
 have q2:=kl_ d (bare e) h1.1 (by omega) b
 refine⟨by rw[T.len,qp_];exact q2,fun p hp=>?_⟩
 have:=T.lt p hp
 rw[qp_]at this
 omega
def l8c (e:E):Wd:=
 if e.kind=1 then [(Go.Lib.decDigits e.n.toNat,0)]
 else if e.kind=2 then [(e.s,0)]
 else l8 (e.kids.getD 0 E0) (max 2 (ap_ e.s)) (max 2 (ap_ e.s))++(e.s,((wds (e.kids.getD 0 E0) (max 2 (ap_ e.s))).length:Int))::shf ((wds (e.kids.getD 0 E0) (max 2 (ap_ e.s))).length+1) (l8 (e.kids.getD 1 E0) (ap_ e.s+1) (ap_ e.s+1))
theorem avq_ {e:E} (hk:e.kind=1∨e.kind=2∨e.kind=3∧e.kids.length=2) (t b:Int):l8 e t b=brk (decide (e.kind=3∧ap_ e.s<b)) (shf (if e.kind=3∧ap_ e.s<t then 1 else 0) (l8c e)):=by
 rcases hk with hk|hk|⟨hk,hl⟩
 ·rw[arx_ hk];simp[l8c,hk,pl_,brk]
 ·rw[ah5_ hk];simp[l8c,hk,pl_,brk]
 ·rw[any_ hk hl];simp[l8c,hk]
def l8L (s:Sl):Wd:=
 if s.kind=1 then(s.name,1)::(wEq,4)::shf 5 (l8 s.expr 1 1)
 else if s.kind=2 then(bi_,0)::shf 1 (l8 s.expr 1 1)
 else if s.kind=3 then((wIf,0)::shf 1 (l8 s.expr 1 1)++[(bz_, -1),(bi_,((wds s.expr 1).length:Int)+1)])++shf ((wds s.expr 1).length+2) (l8 s.thn 1 1)
 else []
def lt_ (s:Sl):List Int:=(l8L s).map fun c=>if c.2<0 then -1 else(b3_ 0 (sw' s)).getD c.2.toNat 0
end
section
set_option maxRecDepth 100000
set_option maxHeartbeats 4000000
theorem ale_ {l:Wd} {k:Nat} (h:k<l.length):h5_ (l.take (k+1))=h5_ (l.take k)+((l.getD k ([],0)).1.length+1):=by
 have e:l.take (k+1)=l.take k++[l.getD k ([],0)]:=by
  rw[List.take_add_one,T6_ h,T8_,T6_ h];rfl
 rw[e,p6_,w9_,o9_];omega
theorem anv_ (l:Wd) (k:Nat):h5_ (l.take k)≤h5_ l:=by
 conv=>rhs;rw[←List.take_append_drop k l]
 have:=wn_ (l.drop k)
 rw[p6_];omega
theorem aps_ {l:Wd} {k:Nat} (h:k<l.length):(b3_ 0 (l.map (·.1))).getD k 0=h5_ (l.take k):=by
 rw[qf_ _ _ (by simpa using h),h5_,List.map_take];omega
attribute [local go_sem] cj_ dr_ ao_ fr_ in
theorem ak7_ (l:Wd) (hl:l.length≤1000000) (hw:h5_ l<1099511627776):ACall En 133 [.sl false (wdR l)] [] [.sl false (inR (b3_ 0 (l.map (·.1))))] []:=by
 have hp:∀k,bh_ (en_ (inR (b3_ 0 (l.map (·.1)))) [.i .i64 0] k)=true:=fun k=>io_ (ao_ _) rfl
 have hll:(inR (b3_ 0 (l.map (·.1)))).length=l.length:=by rw[as_,cm_,List.length_map]
 have hd1:∀k j,((en_ (inR (b3_ 0 (l.map (·.1)))) [.i .i64 0] k).getD j []).drop 1=[]:=ab3_ _ _ (fun r hr=>ail_ hr) rfl
 refine aa_ [] Tryz.func133 Tryz.ntmps133 fun C=>?_
 refine .seq (.rgo [] ?_ ?_ (h:=by simp only[go_sem,seval,hp,hd1,hll];rfl))
 ·(first|trivial)
 refine .seq (.rgo [] ?_ ?_ (h:=by simp only[go_sem,seval,hp,hd1,hll];rfl))
 ·simp;omega
 refine .seq (.rgo [] ?_ ?_ (h:=by simp only[go_sem,seval,hp,hd1,hll];rfl))
 ·(first|trivial)
 refine .seq (.seq (.rgo [] ?_ ?_ (h:=by simp only[go_sem,seval,hp,hd1,hll];rfl)))
 ·(first|trivial)
 refine .block (.loopK (fun k:Nat=>⟨[.no,.no,.no,.ow 19 1 0 l.length,.i .i64 (h5_ (l.take k)),.no,.no,.no,.no,.no,.sl false (wdR l),.i .i64 l.length,.i .i64 k,.no,.no,.no,.no,.no,.no,.no,.no,.no,.no,.no,.no,.no,.no,.no,.no],ak_ [(19,⟨3,1,en_ (inR (b3_ 0 (l.map (·.1)))) [.i .i64 0] k⟩)],us [19]⟩) (fun k:Nat=>k≤l.length) (fun k:Nat=>l.length - k) (0) ?_ ?_ (fun k hI=>?_))
 ·simp
 ·exact Can.wl (h:=by simp only[go_sem,seval,hp,hd1,hll,ae_,leV,ac_,ad_,V.inn,us,T9_,Ta_]<;>(simp[o9_])) (hi:=by simp only[go_sem,seval,hp,hd1,hll,ae_,leV,ac_,ad_,V.inn,us,T9_,Ta_]) (hL:=by simp only[go_sem,seval,hp,hd1,hll,ae_,leV,ac_,ad_,V.inn,us,T9_,Ta_]<;>(simp[ip_,hll]))
 refine .seq (.rgo [] ?_ ?_ (h:=by simp only[go_sem,seval,hp,hd1,hll];rfl))
 ·(first|trivial)
 refine .seq (.cB (fun h13=>?_) (fun h13=>?_) (hc:=by simp only[go_sem,seval,hp,hd1,hll];rfl) (hp:=by simp only[go_sem,seval,hp,hd1,hll]))
 ·refine .skip (.seq (.block (.seq (.rgo [] ?_ ?_ (h:=by simp only[go_sem,seval,hp,hd1,hll,jq_ (show k<l.length by simpa using h13)];rfl)))))
  ·simp only[T3_]at h13;simp;omega
  refine .seq (.rgo [] ?_ ?_ (h:=by simp only[go_sem,seval,hp,hd1,hll];rfl))
  ·simp only[T3_]at h13;simp;omega
  refine .rgo [] ?_ ?_ (h:=by simp only[go_sem,seval,hp,hd1,hll];rfl)
  ·(first|trivial)
  refine .rgo [] ?_ ?_ (h:=by simp only[go_sem,seval,hp,hd1,hll];rfl)
  ·(first|trivial)
  refine Exists.intro (k+1) ⟨?_,?_,?_⟩
  ·simp at h13;omega
  ·simp at h13;omega
  exact Can.wl (h:=by simp only[go_sem,seval,hp,hd1,hll,ae_,leV,ac_,ad_,V.inn,us,T9_,Ta_]<;>((have q:=ale_ (show k<l.length by simpa using h13));(have q2:=anv_ l (k+1));(have q3:=wn_ (l.take k));(refine⟨?_,?_⟩;(rw[aj_ (show -9223372036854775808≤(((l.getD k ([],0)).1.length:Int)+1) by omega) (by omega),aj_ (by omega) (by omega),q]);(rw[aj_ (by simp at h13;omega) (by simp at h13;omega)];simp)))) (hi:=by simp only[go_sem,seval,hp,hd1,hll,ae_,leV,ac_,ad_,V.inn,us,T9_,Ta_]) (hL:=by simp only[go_sem,seval,hp,hd1,hll,ae_,leV,ac_,ad_,V.inn,us,T9_,Ta_]<;>((rw[←i3_ (by rw[hll];simpa using h13),c8_ (by rw[cm_,List.length_map];simpa using h13),aps_ (by simpa using h13)])))
 ·refine .exit (.seq (.rgo [] ?_ ?_ (h:=by simp only[go_sem,seval,hp,hd1,hll];rfl)))
  ·(first|trivial)
  refine .frz 19 (by simp only[go_sem,seval,hp,hd1,hll];rfl) (by simp only[go_sem,seval,hp,hd1,hll]) (by simp only[go_sem,seval,hp,hd1,hll];rfl) (by simp only[go_sem,seval,hp,hd1,hll];rfl) ?_
  refine .ret ⟨.inr rfl,?_⟩
  exact Out.pl (by simp only[Tryz.results133];rfl) (by simp only[ag_,go_sem,seval,hp,hd1,hll]<;>(simp at h13;rw[kb_ (by omega)];simp[←hll,T1_,peel])) (h1:=by simp only[a8_,b4_,go_sem,seval,hp,hd1,hll]<;>(split<;>rfl)) (h3:=by simp only[go_sem,seval,hp,hd1,hll])
theorem amr_ {l:Wd} {k:Nat} (h:k<l.length) (n:Int):shf n (l.take (k+1))=shf n (l.take k)++[((l.getD k ([],0)).1,if 0≤(l.getD k ([],0)).2 then(l.getD k ([],0)).2+n else(l.getD k ([],0)).2)]:=by
 have e:l.take (k+1)=l.take k++[l.getD k ([],0)]:=by
  rw[List.take_add_one,T6_ h,T8_,T6_ h];rfl
 rw[e,asl_];congr 1
 simp only[shf,List.map_cons,List.map_nil]
 split<;>rfl
attribute [local go_sem] cj_ dr_ ig_ in
theorem kn_ (l:Wd) (n:Int) (hl:l.length≤1000000) (hb:∀p∈l,p.2≤1000000) (h0:0≤n) (h1:n≤1000000):ACall En 176 [.sl false (wdR l),.i .i64 n] [] [.sl false (wdR (shf n l))] []:=by
 refine aa_ [] Tryz.func176 Tryz.ntmps176 fun C=>?_
 refine .seq (.rgo [] ?_ ?_)
 ·(first|trivial|(simp;done)|(simp at h12;simp;omega))
 refine .seq (.rgo [] ?_ ?_)
 ·(first|trivial|(simp;done)|(simp at h12;simp;omega))
 refine .seq (.seq (.rgo [] ?_ ?_))
 ·(first|trivial|(simp;done)|(simp at h12;simp;omega))
 refine .block (.loopK (fun k:Nat=>⟨[.sl false (wdR l),.i .i64 n,.no,.no,.no,.ow 60 2 0 k,.i .i64 k,.no,.no,.no,.no,.no,.no,.no,.no,.no,.no,.no,.no,.no,.no,.no,.no,.no,.no,.no,.no,.no,.no,.no,.no,.no],ak_ [(60,⟨133,2,wdR (shf n (l.take k))⟩)],us [60]⟩) (fun k:Nat=>k≤l.length) (fun k:Nat=>l.length - k) (0) ?_ ?_ (fun k hI=>?_))
 ·simp
 ·refine Can.trans (Can.ownSlot 5 60 133 2 (by simp only[go_sem,seval]<;>rfl) (by simp only[go_sem,seval]) (by simp only[go_sem,seval]<;>rfl)) ?_
  refine Can.wk ?_ ?_
  ·first|trivial|(simp)
  ·first|trivial|(simp[shf,wdR])
 refine .seq (.seq (.rgo [] ?_ ?_))
 ·(first|trivial|(simp;done)|(simp at h12;simp;omega))
 refine .cB (fun h12=>?_) (fun h12=>?_)
 ·refine .skip (.seq (.block (.seq (.rgo [] ?_ ?_ (h:=by simp only[go_sem,seval,jq_ (show k<l.length by simpa using h12)];rfl)))))
  ·(first|trivial|(simp;done)|(simp at h12;simp;omega))
  refine .seqJ (fun v:Int=>⟨[.sl false (wdR l),.i .i64 n,.no,.no,.no,.ow 60 2 0 k,.i .i64 k,.pt 17 2 0 0,.no,.no,.no,.no,.no,.no,.no,.no,.no,.no,.no,.no,.no,.no,.no,.no,.no,.no,.no,.no,.no,.no,.no,.no],ak_ [(60,⟨133,2,wdR (shf n (l.take k))⟩),(17,⟨133,2,[[.s (l.getD k ([],0)).1,.i .i64 v]]⟩)],us [17,60]⟩) (fun v:Int=>v=if 0≤(l.getD k ([],0)).2 then(l.getD k ([],0)).2+n else(l.getD k ([],0)).2) ?_ (fun v hJ=>?_)
  ·refine .seq (.rgo [] ?_ ?_)
   ·(first|trivial|(simp;done)|(simp at h12;simp;omega))
   refine .cB (fun h21=>?_) (fun h21=>?_)
   ·refine .rgo [] ?_ ?_
    ·(first|trivial|(simp;done)|(simp at h12;simp;omega))
    refine Exists.intro ((l.getD k ([],0)).2+n) ⟨?_,?_⟩
    ·(simp only[T3_,T4_]at h21;first|rw[if_pos (by omega)]|rw[if_neg (by omega)])
    refine Can.wm ?_;first|trivial|((simp only[T3_,T4_]at h21;have:=hb _ (am_ (d:=([],0)) (show k<l.length by simpa using h12));first|rfl|(rw[aj_ (by omega) (by omega)];done)|(simp;done)|trace_state))
   ·refine .skip ?_
    refine Exists.intro ((l.getD k ([],0)).2) ⟨?_,?_⟩
    ·(simp only[T3_,T4_]at h21;first|rw[if_pos (by omega)]|rw[if_neg (by omega)])
    refine Can.wm ?_;first|trivial|((simp only[T3_,T4_]at h21;have:=hb _ (am_ (d:=([],0)) (show k<l.length by simpa using h12));first|rfl|(rw[aj_ (by omega) (by omega)];done)|(simp;done)|trace_state))
  refine .rgo [] ?_ ?_
  ·simp at h12;simp[au_,a7_];omega
  refine .rgo [] ?_ ?_
  ·(first|trivial|(simp;done)|(simp at h12;simp;omega))
  refine Exists.intro (k+1) ⟨?_,?_,?_⟩
  ·simp at h12;omega
  ·simp at h12;omega
  refine Can.trans (Can.sX 40 60) ?_
  refine Can.wk ?_ ?_
  ·first|trivial|(rw[aj_ (by simp at h12;omega) (by simp at h12;omega)];simp)
  ·first|trivial|(rw[amr_ (by simpa using h12),od_,←hJ];rfl)
 ·refine .exit (.seq (.rgo [] ?_ ?_))
  ·(first|trivial|(simp;done)|(simp at h12;simp;omega))
  refine .fX 60 ?_
  refine .ret ⟨.inr rfl,?_⟩
  exact Out.pl (by simp only[Tryz.results176];rfl) (by simp only[ag_,go_sem,seval]<;>(simp at h12;(obtain rfl:k=l.length:=(by omega));rw[T1_ (Nat.le_refl _)];simp[T1_,ig_,cj_,peel]))
attribute [local go_sem] al_ aq_ ao_ in
theorem ap9_ (l:List Str) (hl:l.length≤1000000) (hw:wid l<1099511627776):ACall En 110 [.sl false (an_ l)] [] [.sl false (inR (b3_ 0 l))] []:=by
 refine aa_ [] Tryz.func110 Tryz.ntmps110 fun C=>?_
 refine .seq (.rgo [] ?_ ?_)
 ·(first|trivial|(simp;done)|(simp at h10;simp;omega))
 refine .seq (.rgo [] ?_ ?_)
 ·(first|trivial|(simp;done)|(simp at h10;simp;omega))
 refine .seq (.rgo [] ?_ ?_)
 ·(first|trivial|(simp;done)|(simp at h10;simp;omega))
 refine .seq (.seq (.rgo [] ?_ ?_))
 ·(first|trivial|(simp;done)|(simp at h10;simp;omega))
 refine .block (.loopK (fun k:Nat=>⟨[.sl false (an_ l),.no,.no,.ow 60 1 0 k,.i .i64 (wid (l.take k)),.i .i64 k,.no,.no,.no,.no,.no,.no,.no,.no,.no,.no,.no,.no,.no,.no,.no,.no,.no,.no,.no,.no],ak_ [(60,⟨3,1,inR ((b3_ 0 l).take k)⟩)],us [60]⟩) (fun k:Nat=>k≤l.length) (fun k:Nat=>l.length - k) (0) ?_ ?_ (fun k hI=>?_))
 ·simp
 ·refine Can.trans (Can.ownSlot 3 60 3 1 (by simp only[go_sem,seval]<;>rfl) (by simp only[go_sem,seval]) (by simp only[go_sem,seval]<;>rfl)) ?_
  refine Can.wk ?_ ?_
  ·first|trivial|(simp[aas_])
  ·first|trivial|(simp[inR])
 refine .seq (.seq (.rgo [] ?_ ?_))
 ·(first|trivial|(simp;done)|(simp at h10;simp;omega))
 refine .cB (fun h10=>?_) (fun h10=>?_)
 ·refine .skip (.seq (.block (.seq (.rgo [] ?_ ?_))))
  ·simp at h10;simp[acf_,a7_,as_,cm_];omega
  refine .rgo [] ?_ ?_ (h:=by simp only[go_sem,seval,aw_ (show k<l.length by simpa using h10)];rfl)
  ·(first|trivial|(simp;done)|(simp at h10;simp;omega))
  refine .rgo [] ?_ ?_
  ·(first|trivial|(simp;done)|(simp at h10;simp;omega))
  refine Exists.intro (k+1) ⟨?_,?_,?_⟩
  ·simp at h10;omega
  ·simp at h10;omega
  refine Can.trans (Can.sX 26 60) ?_
  refine Can.wk ?_ ?_
  ·first|trivial|((have q:=aot_ (show k<l.length by simpa using h10));(have q2:=asd_ l (k+1));(repeat' apply And.intro)<;>first|(simp;done)|(rw[aj_ (by simp at h10;omega) (by simp at h10;omega)];simp;done)|(rw[aj_ (show -9223372036854775808≤((wid (l.take k):Int)+((l.getD k []).length:Int)) by omega) (by omega),aj_ (by omega) (by omega)];omega)|trace_state)
  ·first|trivial|((rw[List.take_add_one,T6_ (show k<(b3_ 0 l).length by rw[cm_];simpa using h10),t1_];(have:=qf_ l 0 (show k<l.length by simpa using h10));rw[T8_,T6_ (show k<(b3_ 0 l).length by rw[cm_];simpa using h10),Option.getD_some]at this;rw[this];simp[inR]))
 ·refine .exit (.seq (.rgo [] ?_ ?_))
  ·(first|trivial|(simp;done)|(simp at h10;simp;omega))
  refine .fX 60 ?_
  refine .ret ⟨.inr rfl,?_⟩
  exact Out.pl (by simp only[Tryz.results110];rfl) (by simp only[ag_,go_sem,seval]<;>(simp at h10;(obtain rfl:k=l.length:=(by omega));rw[T1_ (by rw[cm_];exact Nat.le_refl _)];simp[T1_,as_,cm_,peel]))
end
end Go.Proofs.YthjccajoadjicaaGreatDoor
