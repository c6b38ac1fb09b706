/- Plain laws: types taken away: right still, no wider; which words stand in it. Conditions: none. -/
import Derived.Test.YthjccajoadjicaaGreatDoorMg
set_option linter.unusedVariables false
set_option linter.unusedSimpArgs false
set_option maxRecDepth 100000
set_option maxHeartbeats 8000000
namespace Go.Proofs.YthjccajoadjicaaGreatDoor
section
mutual
theorem rl_:∀(e:E) (d k:Nat),form e d=true→form e ((d+k:Nat):Int)=true∧many e ((d+k:Nat):Int)=many e d
 |.mk kd n s kids,d,k,h=>by
  have hd:1≤d:=by have:=(aj_ h).1;omega
  obtain⟨d,rfl⟩:∃d',d=d'+1:=⟨d - 1,by omega⟩
  have e1:((d+1:Nat):Int) - 1=(d:Int):=by omega
  have e2:((d+1+k:Nat):Int) - 1=((d+k:Nat):Int):=by omega
  simp only[form,Bool.and_eq_true,decide_eq_true_eq]at h ⊢
  rw[e1]at h
  have:=v6_ kids d k h.2
  rw[e2]
  refine⟨⟨⟨by omega,h.1.2⟩,this.1⟩,?_⟩
  simp only[many]
  rw[if_pos (by omega),if_pos (by omega),e1,e2,this.2]
theorem v6_:∀(l:List E) (d k:Nat),ck_ l d=true→ck_ l ((d+k:Nat):Int)=true∧cg_ l ((d+k:Nat):Int)=cg_ l d
 |[],d,k,_=>by simp[ck_,cg_]
 |e::r,d,k,h=>by
  simp only[ck_,Bool.and_eq_true]at h ⊢
  have h1:=rl_ e d k h.1
  have h2:=v6_ r d k h.2
  simp only[cg_]
  exact⟨⟨h1.1,h2.1⟩,by rw[h1.2,h2.2]⟩
end
def wid (l:List Str):Nat:=(l.map fun s=>s.length+1).sum
theorem ach_:wid []=0:=rfl
theorem ki_ (s:Str) (l:List Str):wid (s::l)=s.length+1+wid l:=rfl
theorem la_ (a b:List Str):wid (a++b)=wid a+wid b:=by simp[wid,List.sum_append]
theorem amd_ (l:List Str):wid l=(l.map List.length).sum+l.length:=by
 induction l with
 |nil=>rfl
 |cons s l ih=>rw[ki_,ih,List.map_cons,List.sum_cons,List.length_cons];omega
theorem af1_ {l:List Str} (h:l≠[]):(ap_ l).length+1=wid l:=by rw[ht_ l h,amd_]
theorem E.ext4 {e:E} {k n:Int} {s:Str} {l:List E} (h1:e.kind=k) (h2:e.n=n) (h3:e.s=s) (h4:e.kids=l):e = .mk k n s l:=by cases e;simp only[E.kind,E.n,E.s,E.kids]at *;subst h1 h2 h3 h4;rfl
theorem eq_ {e:E} (k:e.kind≠4) (hl:e.kids=[]):bare e=e:=by
 rw[r6_ k,hl];simp only[ek_];exact(E.ext4 rfl rfl rfl hl).symm
theorem l2_ {e:E} (k:e.kind=3) (hl:e.kids.length=2):bare e = .mk 3 e.n e.s [bare (e.kids.getD 0 E0),bare (e.kids.getD 1 E0)]:=by
 rw[r6_ (by omega),k];conv=>lhs;rw[kk_ hl]
 simp only[ek_]
theorem p2_ {e:E} (k:e.kind=4) (hl:e.kids.length=1):bare e=bare (e.kids.getD 0 E0):=z2_ k (by omega)
theorem f9_:∀(d:Nat) (e:E),form e d=true→form (bare e) d=true∧many (bare e) d≤many e d
 |0,e,h=>by have:=(aj_ h).1;omega
 |d+1,e,h=>by
  have e1:((d+1:Nat):Int) - 1=(d:Int):=by omega
  obtain⟨h0,h1|h1|h1|h1⟩:=aj_ h
  ·rw[eq_ (by omega) h1.2.2.2.2];exact⟨h,Int.le_refl _⟩
  ·rw[eq_ (by omega) h1.2.2.2];exact⟨h,Int.le_refl _⟩
  ·obtain⟨k,hn,ho,hl,ha,hb⟩:=h1
   rw[e1]at ha hb
   obtain⟨a1,a2⟩:=f9_ d _ ha
   obtain⟨b1,b2⟩:=f9_ d _ hb
   rw[l2_ k hl,ku_ h0 hl,e1]
   refine⟨?_,?_⟩
   ·simp only[form,ck_,e1,a1,b1,Bool.and_true,Bool.and_eq_true,decide_eq_true_eq]
    exact⟨h0,by simp[shape,hn,ho]⟩
   rw[ku_ (e:=.mk 3 e.n e.s [_,_]) h0 rfl,e1]
   show 1+many (bare (e.kids.getD 0 E0)) d+many (bare (e.kids.getD 1 E0)) d≤_
   omega
  obtain⟨k,hn,ho,hl,ha⟩:=h1
  rw[e1]at ha
  obtain⟨a1,a2⟩:=f9_ d _ ha
  rw[p2_ k hl,mj_ h0 hl,e1]
  obtain⟨m1,m2⟩:=rl_ _ d 1 a1
  exact⟨m1,by rw[m2];omega⟩
theorem ty_ {e:E} (h:eok e=true):pe (bare e)=true:=by
 have h1:=f9_ 5 e (ao_ h)
 have h2:=kh_ h
 simp only[pe,eok,Bool.and_eq_true,decide_eq_true_eq]
 exact⟨⟨h1.1,Int.le_trans h1.2 h2⟩,mf_ e (je_ h)⟩
theorem at0_ {e:E} {d:Nat} (h:form e d=true) {a b:Int} (hab:a≤b):wid (wds e a)≤wid (wds e b):=by
 obtain⟨h0,h1|h1|h1|h1⟩:=aj_ h
 ·rw[gn_ h1.1,gn_ h1.1];exact Nat.le_refl _
 ·rw[e1_ h1.1,e1_ h1.1];exact Nat.le_refl _
 ·rw[eb_ h1.1 h1.2.2.2.1,eb_ h1.1 h1.2.2.2.1]
  split<;>split
  ·exact Nat.le_refl _
  ·omega
  ·simp only[la_];omega
  exact Nat.le_refl _
 rw[i0_ h1.1 h1.2.2.2.1,i0_ h1.1 h1.2.2.2.1];exact Nat.le_refl _
theorem ot_:∀(d:Nat) (e:E) (must:Int),must≤4→form e d=true→wid (wds (bare e) must)≤wid (wds e must)
 |0,e,must,_,h=>by have:=(aj_ h).1;omega
 |d+1,e,must,hm,h=>by
  have e1:((d+1:Nat):Int) - 1=(d:Int):=by omega
  obtain⟨h0,h1|h1|h1|h1⟩:=aj_ h
  ·rw[eq_ (by omega) h1.2.2.2.2];exact Nat.le_refl _
  ·rw[eq_ (by omega) h1.2.2.2];exact Nat.le_refl _
  ·obtain⟨k,hn,ho,hl,ha,hb⟩:=h1
   rw[e1]at ha hb
   have ht:=by_ ho
   have A:=ot_ d _ (max 2 (ak_ e.s)) (by omega) ha
   have B:=ot_ d _ (ak_ e.s+1) (by omega) hb
   rw[l2_ k hl,eb_ k hl,eb_ (e:=.mk 3 e.n e.s [_,_]) rfl rfl]
   show wid (if ak_ e.s<must then [[40]]++(wds (bare (e.kids.getD 0 E0)) (max 2 (ak_ e.s))++[e.s]++wds (bare (e.kids.getD 1 E0)) (ak_ e.s+1))++[[41]]else wds (bare (e.kids.getD 0 E0)) (max 2 (ak_ e.s))++[e.s]++wds (bare (e.kids.getD 1 E0)) (ak_ e.s+1))≤_
   split<;>simp only[la_]<;>omega
  obtain⟨k,hn,ho,hl,ha⟩:=h1
  rw[e1]at ha
  have A:=ot_ d _ 4 (by omega) ha
  have M:=at0_ (f9_ d _ ha).1 hm
  rw[p2_ k hl,i0_ k hl,la_];omega
def offW (w:Str):Prop:=w≠wAs∧w≠[105,110,116]∧w≠[98,111,111,108]∧w≠jl_∧w≠bp_∧w≠c8_
instance (w:Str):Decidable (offW w):=by unfold offW;exact inferInstance
theorem aw3_ {s:Sl} (h:b9_ s=true):wid (bw (bof s))≤wid (sw' s)+2:=by
 unfold b9_ at h
 by_cases k0:s.kind=0
 ·simp[bw,sw',bof,k0,ach_]
 have hb:∀e:E,eok e=true→wid (wds (bare e) 1)≤wid (wds e 1):=fun e he=>ot_ 5 e 1 (by decide) (ao_ he)
 by_cases k1:s.kind=1
 ·simp[k1]at h
  have:=hb _ h.1.2
  simp[bw,sw',bof,k1,ki_,wEq,jl_,bz_];omega
 by_cases k2:s.kind=2
 ·simp[k2]at h
  have:=hb _ h.1.2
  simp[bw,sw',bof,k2,ki_,bj_,bp_];omega
 by_cases k3:s.kind=3
 ·simp[k3]at h
  have h1:=hb _ h.1.2
  have h2:=hb _ h.2
  simp[bw,sw',bof,k3,ki_,la_,bj_,bp_,wIf,c8_,bz_];omega
 simp[k0,k1,k2,k3]at h
theorem iy_ {s:Sl} (h:b9_ s=true):cx_ (bof s)=true:=by
 unfold b9_ at h
 by_cases k0:s.kind=0
 ·simp[k0,cy_]at h;simp[cx_,bof,k0,h,u7_]
 by_cases k1:s.kind=1
 ·simp[k1,cy_]at h;simp[cx_,bof,k1,h,u7_,ty_ h.1.2]
 by_cases k2:s.kind=2
 ·simp[k2,cy_]at h;simp[cx_,bof,k2,h,u7_,ty_ h.1.2]
 by_cases k3:s.kind=3
 ·simp[k3]at h;simp[cx_,bof,k3,h,ty_ h.1.2,ty_ h.2]
 simp[k0,k1,k2,k3]at h
theorem a3n_ {s:Sl} (h:s.kind=1∨s.kind=2∨s.kind=3):sw' s≠[]∧bw (bof s)≠[]:=by
 rcases h with k|k|k<;>simp[sw',bw,bof,k]
theorem atg_ {s:Sl} (h:b9_ s=true):(ap_ (bw (bof s))).length≤(ap_ (sw' s)).length+2:=by
 have h1:=aw3_ h
 by_cases hk:s.kind=1∨s.kind=2∨s.kind=3
 ·obtain⟨n1,n2⟩:=a3n_ hk
  have t1:=af1_ n1
  have t2:=af1_ n2
  omega
 have:bw (bof s)=[]:=by
  simp only[not_or]at hk
  simp[bw,bof,hk]
 rw[this];simp[hw_]
theorem p8_ {s:Sl} (h:sok s=true):b9_ s=true∧(ap_ (sw' s)).length≤116:=by
 simpa[sok]using h
theorem tq_ {s:Sl} (h:sok s=true):bok (bof s)=true:=by
 obtain⟨h1,h2⟩:=p8_ h
 have h3:=atg_ h1
 simp only[bok,iy_ h1,Bool.true_and,decide_eq_true_eq];omega
end
section
theorem a6g_ {e:E} (h:form e ((2:Nat):Int)=true):eok e=true:=by
 have h1:=rl_ e 2 3 h
 have h2:=(pb_ e 2 h).2
 have h3:(2:Int) ^ 2 - 1=3:=by decide
 have e5:((2+3:Nat):Int)=5:=by decide
 rw[e5]at h1
 simp only[eok,Bool.and_eq_true,decide_eq_true_eq]
 refine⟨h1.1,?_⟩
 rw[h1.2]
 have:(2:Int) ^ (2:Nat)=4:=by decide
 omega
def dS0 (b:Str) (p:Int):E × Int:=dE b ((ay_ b p 4).toNat+1) (p+1)
def cb_ (b:Str) (p:Int):E × Int:=if eok (dS0 b p).1 then dS0 b p else dE b 2 (dS0 b p).2
theorem az7_ (b:Str) {p:Int} (hp:0≤p) (hp2:p<1000000000):p≤(dS0 b p).2∧(dS0 b p).2≤p+100∧sm (dS0 b p).1=true∧(ay_ b p 4).toNat<4:=by
 have h1:=cl_ b hp (by omega) (show(1:Int)≤4 by decide)
 have h2:(ay_ b p 4).toNat<4:=by omega
 have h3:=dE_p b ((ay_ b p 4).toNat+1) (p+1)
 have h4:∀k:Nat,k<4→(5:Int) * 2 ^ (k+1)≤80:=by decide
 have h5:=h4 _ h2
 unfold dS0
 exact⟨by omega,by omega,(op_ b _ (p+1) (by omega) (by omega)).2,h2⟩
theorem ts_ (b:Str) {p:Int} (hp:0≤p) (hp2:p<1000000000):p≤(cb_ b p).2∧(cb_ b p).2≤p+200∧sm (cb_ b p).1=true∧eok (cb_ b p).1=true:=by
 obtain⟨h1,h2,h3,_⟩:=az7_ b hp hp2
 unfold cb_
 split
 ·rename_i h;exact⟨h1,by omega,h3,h⟩
 have h4:=dE_p b 2 (dS0 b p).2
 have h5:=op_ b 1 (dS0 b p).2 (by omega) (by omega)
 have h6:(5:Int) * 2 ^ 2=20:=by decide
 exact⟨by omega,by omega,h5.2,a6g_ h5.1⟩
attribute [local go_sem] aw_ a5_ in
theorem agd_ (b:Str) (p:Int) (hb:b.length≤2000) (hp:0≤p) (hp2:p<1000000000):ACall En 99 [.pt 0 2 0 0] [rdB b p] [.ag (eC (cb_ b p).1)] [rdB b (cb_ b p).2]:=by
 obtain⟨h1,h2,h3,h4⟩:=az7_ b hp hp2
 have hk:∀k:Nat,k<4→(5:Int) * 2 ^ (k+1)≤80:=by decide
 have hr:=cl_ b hp (by omega) (show(1:Int)≤4 by decide)
 have hw:IntKind.i64.wrap (1+ay_ b p 4)=(((ay_ b p 4).toNat+1:Nat):Int):=by rw[ac_ (by omega) (by omega)];omega
 have A:=v2_ b hb (ay_ b p 4).toNat (p+1) (by omega) (by have:=hk _ h4;omega) (by omega)
 have A2:=v2_ b hb 1 (dS0 b p).2 (by omega) (by have:(5:Int) * 2 ^ (1+1)=20:=(by decide);omega) (by decide)
 rw[show((1+1:Nat):Int)=2 from rfl,show 1+1=2 from rfl]at A2
 rw[show dE b ((ay_ b p 4).toNat+1) (p+1)=dS0 b p from rfl]at A
 refine aa_ [0] Tryz.func99 Tryz.ntmps99 fun C=>?_
 refine .seq (.rg [] ?_ (h:=by simp only[go_sem,seval,hw];rfl))
 refine .seq (.rg [at_ [0] [] (c5_ b p 4 hb hp (by omega)),at_ [0] [] A] ?_ (h:=by simp only[go_sem,seval,hw];rfl))
 refine .seq (.seq (.rg [ab_ (hf_ (dS0 b p).1 h3)] ?_ (h:=by simp only[go_sem,seval,hw];rfl)))
 refine .cB (fun h11=>?_) (fun h11=>?_) (hc:=by simp only[go_sem,seval,hw];rfl) (hp:=by simp only[go_sem,seval,hw])
 ·refine .seq (.rg [at_ [0] [] A2] ?_ (h:=by simp only[go_sem,seval,hw];rfl))
  refine .ret ⟨.inr rfl,?_⟩
  exact Out.mm (by simp only[Tryz.results99];rfl) (by simp only[ba_,rns,rn,go_sem,seval,hw]<;>(simp at h11;simp[cb_,h11,dz_])) (by simp only[aw_,go_sem,seval,hw]<;>(simp at h11;simp[cb_,h11])) (h1:=by simp only[a1_,bn_,go_sem,seval,hw]) (h6:=by simp only[go_sem,seval,hw]) (h7:=by simp only[a5_,go_sem,seval,hw])
 refine .skip (.seq (.rg [] ?_ (h:=by simp only[go_sem,seval,hw];rfl)))
 refine .ret ⟨.inr rfl,?_⟩
 exact Out.mm (by simp only[Tryz.results99];rfl) (by simp only[ba_,rns,rn,go_sem,seval,hw]<;>(simp at h11;simp[cb_,h11,dz_])) (by simp only[aw_,go_sem,seval,hw]<;>(simp at h11;simp[cb_,h11])) (h1:=by simp only[a1_,bn_,go_sem,seval,hw]) (h6:=by simp only[go_sem,seval,hw]) (h7:=by simp only[a5_,go_sem,seval,hw])
def asN:Nat→E→E
 |0,e=>e
 |k+1,e=>.mk 4 0 [105,110,116] [asN k e]
theorem aq9_ {e:E} (h:sm e=true):∀k,sm (asN k e)=true
 |0=>h
 |k+1=>by simp only[asN,sm,sms,aq9_ h k];simp
def vt_ (b:Str) (q k:Int) (e:E):E:=
 if k=0 then .mk (ob_ b q [0,5,3,4]) e.n e.s e.kids
 else if k=1 then .mk e.kind (ob_ b q [1, -1,1000001]) e.s e.kids
 else if k=2 then .mk e.kind e.n (ofI b q [[108,101,116],[88],[60],[105,110,116],[120]]) e.kids
 else if k=3 then asN 5 e
 else e
def sl_ (q k:Int):Int:=if k=0∨k=1∨k=2 then q+1 else q
def h1_ (b:Str) (p:Int):E × Int:=(vt_ b ((cb_ b p).2+1) (ay_ b (cb_ b p).2 48) (cb_ b p).1,sl_ ((cb_ b p).2+1) (ay_ b (cb_ b p).2 48))
theorem awa_ (b:Str) {p:Int} (hp:0≤p) (hp2:p<1000000000):p≤(h1_ b p).2∧(h1_ b p).2≤p+300∧sm (h1_ b p).1=true:=by
 obtain⟨h1,h2,h3,h4⟩:=ts_ b hp hp2
 have hs:=fg_ h3
 have hk:=alw_ h3
 refine⟨by simp only[h1_,sl_];split<;>omega,by simp only[h1_,sl_];split<;>omega,?_⟩
 simp only[h1_,vt_]
 split
 ·simp only[sm,Bool.and_eq_true,decide_eq_true_eq];exact⟨⟨hs.1,hk⟩,hs.2.2⟩
 split
 ·simp only[sm,Bool.and_eq_true,decide_eq_true_eq];exact⟨⟨hs.1,hk⟩,hs.2.2⟩
 split
 ·have:=wk_ (b:=b) (p:=(cb_ b p).2+1) (l:=[[108,101,116],[88],[60],[105,110,116],[120]]) (by decide) (by omega) (by omega)
  simp only[List.mem_cons,List.not_mem_nil,or_false]at this
  simp only[sm,Bool.and_eq_true,decide_eq_true_eq]
  refine⟨⟨?_,hk⟩,hs.2.2⟩
  rcases this with h|h|h|h|h<;>rw[h]<;>decide
 split
 ·exact aq9_ h3 5
 exact h3
attribute [local go_sem] aw_ a5_ ho_ eo_ e3_ ep_ in
theorem aq4_ (b:Str) (p:Int) (hb:b.length≤2000) (hp:0≤p) (hp2:p<1000000000):ACall En 173 [.pt 0 2 0 0] [rdB b p] [.ag (eC (h1_ b p).1)] [rdB b (h1_ b p).2]:=by
 obtain⟨h1,h2,h3,_⟩:=ts_ b hp hp2
 refine aa_ [0] Tryz.func173 Tryz.ntmps173 fun C=>?_
 refine .seq (.rg [] ?_)
 refine .seq (.rg [at_ [0] [] (agd_ b p hb hp hp2)] ?_)
 refine .seqJ (fun u:Unit=>⟨[.no,.no,.pt 12 4 0 0,.pt 13 4 0 0,.no,.no,.no,.no,.no,.no,.no,.no,.no,.no,.no,.no,.no,.no,.no,.no,.no,.no,.no,.no,.no,.no,.no,.no,.no,.no,.no,.no,.no,.no,.no,.no,.no],ae_ [(0,rdB b (h1_ b p).2),(12,⟨56,4,[[.i .i64 0,.i .i64 0,.s [],.sl true []]]⟩),(13,⟨56,4,[eC (h1_ b p).1]⟩)],us [12,13]⟩) (fun u:Unit=>True) ?_ (fun u hJ=>?_)
 ·refine .seq (.rg [at_ [0] [] (c5_ b (cb_ b p).2 48 hb (by omega) (by omega))] ?_)
  refine .block (.seq (.rg [] ?_))
  refine .cB (fun h9=>?_) fun h9=>?_
  ·refine .rg [at_ [0] [] (w5_ b ((cb_ b p).2+1) [0,5,3,4] (by decide) hb (by omega) (by omega))] ?_
   refine Exists.intro (()) ⟨?_,?_⟩
   ·trivial
   refine Can.wk ?_ ?_
   ·trivial
   (try(have:=hI);try(have hk5:k=5:=by simp at h30;omega);try subst hk5);simp_all[h1_,vt_,sl_,E.kind_mk,E.n_mk,E.s_mk,E.kids_mk];done
  refine .seq (.rg [] ?_)
  refine .cB (fun h15=>?_) fun h15=>?_
  ·refine .rg [at_ [0] [] (w5_ b ((cb_ b p).2+1) [1, -1,1000001] (by decide) hb (by omega) (by omega))] ?_
   refine Exists.intro (()) ⟨?_,?_⟩
   ·trivial
   refine Can.wk ?_ ?_
   ·trivial
   (try(have:=hI);try(have hk5:k=5:=by simp at h30;omega);try subst hk5);simp_all[h1_,vt_,sl_,E.kind_mk,E.n_mk,E.s_mk,E.kids_mk];done
  refine .seq (.rg [] ?_)
  refine .cB (fun h21=>?_) fun h21=>?_
  ·refine .rg [at_ [0] [] (pt_ b ((cb_ b p).2+1) [[108,101,116],[88],[60],[105,110,116],[120]] (by decide) hb (by omega) (by omega))] ?_
   refine Exists.intro (()) ⟨?_,?_⟩
   ·trivial
   refine Can.wk ?_ ?_
   ·trivial
   (try(have:=hI);try(have hk5:k=5:=by simp at h30;omega);try subst hk5);simp_all[h1_,vt_,sl_,E.kind_mk,E.n_mk,E.s_mk,E.kids_mk];done
  refine .seq (.rg [] ?_)
  refine .cB (fun h27=>?_) fun h27=>?_
  ·refine .seq (.rg [] ?_)
   refine .block (.loopK (fun k:Nat=>⟨[.no,.no,.pt 12 4 0 0,.pt 13 4 0 0,.i .i64 k,.no,.no,.no,.no,.no,.no,.no,.no,.no,.no,.no,.no,.no,.no,.no,.no,.no,.no,.no,.no,.no,.no,.no,.no,.no,.no,.no,.no,.no,.no,.no,.no],ae_ [(0,rdB b ((cb_ b p).2+1)),(12,⟨56,4,[[.i .i64 0,.i .i64 0,.s [],.sl true []]]⟩),(13,⟨56,4,[eC (asN k (cb_ b p).1)]⟩)],us [12,13]⟩) (fun k:Nat=>k≤5) (fun k:Nat=>5 - k) (0) ?_ ?_ (fun k hI=>?_))
   ·simp
   ·refine Can.wk ?_ ?_
    ·trivial
    simp[asN]
   refine .seq (.seq (.rg [] ?_))
   refine .cB (fun h30=>?_) fun h30=>?_
   ·refine .skip (.seq (.block (.rg [] ?_)))
    refine .rg [] ?_
    refine⟨k+1,?_,?_,?_⟩
    ·simp at h30;omega
    ·simp at h30;omega
    refine Can.trans (Can.leAt 13 ([[.i .i64 4,.i .i64 0,.s [105,110,116],.sl false [eC (asN k (cb_ b p).1)]]]) (by simp only[go_sem,seval]<;>rfl) (by simp only[go_sem,seval,ler,les,leV]<;>(first|trivial|simp)) (by simp only[go_sem,seval]<;>rfl)) ?_
    refine Can.wk ?_ ?_
    ·rw[ac_ (by simp at h30;omega) (by simp at h30;omega)];simp
    simp[asN,E.kind_mk,E.n_mk,E.s_mk,E.kids_mk,eR,dz_]
   refine .exit ?_
   refine Exists.intro (()) ⟨?_,?_⟩
   ·trivial
   refine Can.wk ?_ ?_
   ·trivial
   (try(have:=hI);try(have hk5:k=5:=by simp at h30;omega);try subst hk5);simp_all[h1_,vt_,sl_,E.kind_mk,E.n_mk,E.s_mk,E.kids_mk];done
  refine .skip ?_
  refine Exists.intro (()) ⟨?_,?_⟩
  ·trivial
  refine Can.wk ?_ ?_
  ·trivial
  (try(have:=hI);try(have hk5:k=5:=by simp at h30;omega);try subst hk5);simp_all[h1_,vt_,sl_,E.kind_mk,E.n_mk,E.s_mk,E.kids_mk];done
 refine .seq (.rg [] ?_)
 refine .ret ⟨.inr rfl,Out.mP Tryz.results173 ?_ ?_⟩
 ·trivial
 trivial
end
section
def sC (s:Sl):List V:=.i .i64 s.kind::.s s.name::.s s.type::(eC s.expr++eC s.thn)
theorem a9_ (s:Sl):sC s=[.i .i64 s.kind,.s s.name,.s s.type,.i .i64 s.expr.kind,.i .i64 s.expr.n,.s s.expr.s,.sl false (eR s.expr.kids),.i .i64 s.thn.kind,.i .i64 s.thn.n,.s s.thn.s,.sl false (eR s.thn.kids)]:=by
 simp only[sC,dz_];rfl
def d6_ (s:Sl):Bool:=decide (s.name.length<4611686018427387904)&&decide (s.type.length<4611686018427387904)&&sm s.expr&&sm s.thn
theorem gl_ {s:Sl} (h:d6_ s=true):s.name.length<4611686018427387904∧s.type.length<4611686018427387904∧sm s.expr=true∧sm s.thn=true:=by
 simp only[d6_,Bool.and_eq_true,decide_eq_true_eq]at h;exact⟨h.1.1.1,h.1.1.2,h.1.2,h.2⟩
def d5 (b:Str) (p k:Int):Sl × Int:=
 if k=0 then(S0,(cb_ b p).2)
 else if k=1 then(⟨1,ofI b (cb_ b p).2 [[120],[121],[122]],ofI b ((cb_ b p).2+1) [[105,110,116],[105,110,116],[98,111,111,108]],(cb_ b p).1,E0⟩,(cb_ b p).2+2)
 else if k=3 then(⟨3,[],[],(cb_ b p).1,(dE b 2 (cb_ b p).2).1⟩,(dE b 2 (cb_ b p).2).2)
 else(⟨k,[],[],(cb_ b p).1,E0⟩,(cb_ b p).2)
def bm_ (b:Str) (p:Int):Sl × Int:=d5 b (p+1) (ob_ b p [1,1,2,2,3,3,0])
theorem fw_:E0.kind=0:=rfl
theorem fs_:E0.n=0:=rfl
theorem ft_:E0.s=[]:=rfl
theorem bq_:E0.kids=[]:=rfl
theorem b6_:eR []=[]:=by simp only[eR]
theorem sx_:wf E0=true:=by decide
theorem ase_:sm E0=true:=by decide
theorem rd_ {b:Str} {p:Int} {l:List Str} (hl:0<l.length) (hp:0≤p) (hp2:p<1099511627776) (k:Nat) (h:∀s∈l,s.length≤k):(ofI b p l).length≤k:=h _ (wk_ hl hp hp2)
theorem lv_ (b:Str) {p:Int} (hp:0≤p) (hp2:p<100000000):p≤(bm_ b p).2∧(bm_ b p).2≤p+300∧d6_ (bm_ b p).1=true∧wf (bm_ b p).1.expr=true∧wf (bm_ b p).1.thn=true∧((bm_ b p).1.kind=0∨(bm_ b p).1.kind=1∨(bm_ b p).1.kind=2∨(bm_ b p).1.kind=3):=by
 obtain⟨h1,h2,h3,h4⟩:=ts_ b (p:=p+1) (by omega) (by omega)
 have hk:=akj_ (b:=b) (p:=p) (l:=[1,1,2,2,3,3,0]) (by decide) hp (by omega)
 have h5:=dE_p b 2 (cb_ b (p+1)).2
 have h6:=op_ b 1 (cb_ b (p+1)).2 (by omega) (by omega)
 have h7:(5:Int) * 2 ^ 2=20:=by decide
 have l1:=rd_ (b:=b) (p:=(cb_ b (p+1)).2) (l:=[[120],[121],[122]]) (by decide) (by omega) (by omega) 4 (by decide)
 have l2:=rd_ (b:=b) (p:=(cb_ b (p+1)).2+1) (l:=[[105,110,116],[105,110,116],[98,111,111,108]]) (by decide) (by omega) (by omega) 4 (by decide)
 simp only[List.mem_cons,List.not_mem_nil,or_false]at hk
 unfold bm_
 generalize ob_ b p [1,1,2,2,3,3,0]=k at hk
 unfold d5
 split
 ·refine⟨by dsimp only;omega,by dsimp only;omega,show d6_ S0=true by decide,sx_,sx_,.inl rfl⟩
 split
 ·refine⟨by dsimp only;omega,by dsimp only;omega,?_,je_ h4,sx_,.inr (.inl rfl)⟩
  simp only[d6_,h3,ase_,Bool.and_true,Bool.and_eq_true,decide_eq_true_eq];omega
 split
 ·exact⟨by dsimp only;omega,by dsimp only;omega,by simp only[d6_,h3,h6.2,List.length_nil];rfl,je_ h4,abs_ _ _ h6.1,.inr (.inr (.inr rfl))⟩
 exact⟨by dsimp only;omega,by dsimp only;omega,by simp only[d6_,h3,ase_,List.length_nil];rfl,je_ h4,sx_,by dsimp only;omega⟩
attribute [local go_sem] aw_ a5_ ho_ eo_ e3_ ep_ a9_ in
theorem wz_ (b:Str) (p:Int) (hb:b.length≤2000) (hp:0≤p) (hp2:p<100000000):ACall En 47 [.pt 0 2 0 0] [rdB b p] [.ag (sC (bm_ b p).1)] [rdB b (bm_ b p).2]:=by
 obtain⟨h1,h2,h3,h4⟩:=ts_ b (p:=p+1) (by omega) (by omega)
 have A2:=v2_ b hb 1 (cb_ b (p+1)).2 (by omega) (by have:(5:Int) * 2 ^ (1+1)=20:=(by decide);omega) (by decide)
 rw[show((1+1:Nat):Int)=2 from rfl,show 1+1=2 from rfl]at A2
 refine aa_ [0] Tryz.func47 Tryz.ntmps47 fun C=>?_
 refine .seq (.rg [] ?_)
 refine .seq (.rg [at_ [0] [] (w5_ b p [1,1,2,2,3,3,0] (by decide) hb (by omega) (by omega)),at_ [0] [] (agd_ b (p+1) hb (by omega) (by omega))] ?_)
 refine .seq (.seq (.rg [] ?_))
 refine .block (.seq (.rg [] ?_))
 refine .cB (fun h12=>?_) fun h12=>?_
 ·refine .seq (.rg [] ?_)
  refine .ret ⟨.inr rfl,?_⟩
  exact Out.mmL (by simp only[Tryz.results47];rfl) (by simp only[ba_,rns,rn,go_sem,seval]<;>(simp at h12;simp[bm_,d5,h12,a9_,S0,fw_,fs_,ft_,bq_,b6_,ler])) (by simp only[aw_,go_sem,seval]<;>(simp at h12;simp[bm_,d5,h12]))
 refine .seq (.rg [] ?_)
 refine .cB (fun h15=>?_) fun h15=>?_
 ·refine .seq (.rg [at_ [0] [] (pt_ b (cb_ b (p+1)).2 [[120],[121],[122]] (by decide) hb (by omega) (by omega))] ?_)
  refine .rg [at_ [0] [] (pt_ b ((cb_ b (p+1)).2+1) [[105,110,116],[105,110,116],[98,111,111,108]] (by decide) hb (by omega) (by omega))] ?_
  refine .seq (.rg [] ?_)
  refine .ret ⟨.inr rfl,?_⟩
  exact Out.mmL (by simp only[Tryz.results47];rfl) (by simp only[ba_,rns,rn,go_sem,seval]<;>(simp at h12 h15;simp[bm_,d5,h12,h15,a9_,fw_,fs_,ft_,bq_,b6_,ler,ad_])) (by simp only[aw_,go_sem,seval]<;>(simp at h12 h15;simp[bm_,d5,h12,h15];omega))
 refine .seq (.rg [] ?_)
 refine .cB (fun h25=>?_) fun h25=>?_
 ·refine .rg [at_ [0] [] A2] ?_
  refine .seq (.rg [] ?_)
  refine .ret ⟨.inr rfl,?_⟩
  exact Out.mmL (by simp only[Tryz.results47];rfl) (by simp only[ba_,rns,rn,go_sem,seval]<;>(simp at h12 h15 h25;simp[bm_,d5,h12,h15,h25,a9_,fw_,fs_,ft_,bq_,b6_,ler,ad_])) (by simp only[aw_,go_sem,seval]<;>(simp at h12 h15 h25;simp[bm_,d5,h12,h15,h25]))
 refine .skip (.seq (.rg [] ?_))
 refine .ret ⟨.inr rfl,?_⟩
 exact Out.mmL (by simp only[Tryz.results47];rfl) (by simp only[ba_,rns,rn,go_sem,seval]<;>(simp at h12 h15 h25;simp[bm_,d5,h12,h15,h25,a9_,fw_,fs_,ft_,bq_,b6_,ler,ad_])) (by simp only[aw_,go_sem,seval]<;>(simp at h12 h15 h25;simp[bm_,d5,h12,h15,h25]))
theorem ayz_ {s:Sl} (h:d6_ s=true):smb (bof s)=true:=by
 obtain⟨s1,s2,s3,s4⟩:=gl_ h
 unfold smb bof
 simp only[s1,decide_true,Bool.true_and]
 split<;>split<;>simp[to_,s3,s4,ase_]
end
section
def dm_ (s:Sl):Wd:=
 if s.kind=1 then(jl_,100)::(s.name,101)::(bz_, -1)::(s.type, -1)::(wEq,102)::src s.expr 0 0
 else if s.kind=2 then(bp_,103)::src s.expr 0 0
 else if s.kind=3 then((c8_,100)::src s.expr 0 0++[(bp_,103)])++src s.thn 0 (cnt s.expr)
 else []
theorem hc_ {s:Sl} (h:b9_ s=true):(s.kind=0∨s.kind=1∨s.kind=2∨s.kind=3)∧(s.kind=1∨s.kind=2∨s.kind=3→eok s.expr=true)∧(s.kind=3→eok s.thn=true):=by
 unfold b9_ at h
 by_cases k0:s.kind=0
 ·simp[k0]
 by_cases k1:s.kind=1
 ·simp[k1]at h;simp[k1];exact h.1.2
 by_cases k2:s.kind=2
 ·simp[k2]at h;simp[k2];exact h.1.2
 by_cases k3:s.kind=3
 ·simp[k3]at h;simp[k3];exact⟨h.1.2,h.2⟩
 simp[k0,k1,k2,k3]at h
theorem tg_ {s:Sl} (h:b9_ s=true):(dm_ s).map (·.1)=sw' s:=by
 obtain⟨h0,h1,h2⟩:=hc_ h
 unfold dm_ sw'
 rcases h0 with k|k|k|k
 ·simp[k]
 ·simp[k,eu_,fa_ (ao_ (h1 (.inl k)))]
 ·simp[k,eu_,fa_ (ao_ (h1 (.inr (.inl k))))]
 simp[k,eu_,fa_ (ao_ (h1 (.inr (.inr k)))),fa_ (ao_ (h2 k))]
attribute [local go_sem] ci_ dp_ List.length_append List.take_of_length_le a9_ in
theorem agi_ (s:Sl) (h:b9_ s=true) (hs:d6_ s=true):ACall En 132 [.ag (sC s)] [] [.sl false (wdR (dm_ s))] []:=by
 obtain⟨h0,h1,h2⟩:=hc_ h
 obtain⟨s1,s1',s2,s3⟩:=gl_ hs
 have W:s.kind=1∨s.kind=2∨s.kind=3→_:=fun hk=>oq_ 5 s.expr 0 0 (ao_ (h1 hk)) s2 (h8_ (h1 hk)) (by decide) (by have:=nt_ (h1 hk);omega) (by decide)
 have W3:s.kind=3→_:=fun hk=>oq_ 5 s.thn 0 (0+cnt s.expr) (ao_ (h2 hk)) s3 (h8_ (h2 hk)) (by have:=nt_ (h1 (.inr (.inr hk)));omega) (by have:=nt_ (h1 (.inr (.inr hk)));have:=nt_ (h2 hk);omega) (by decide)
 refine aa_ [] Tryz.func132 Tryz.ntmps132 fun C=>?_
 refine .seq (.rg [] ?_)
 refine .seq (.rg [] ?_)
 refine .seq (.seq (.rg [] ?_))
 refine .block (.seq (.rg [] ?_))
 refine .cB (fun h7=>?_) fun h7=>?_
 ·refine .seq (.rgDo [at_ [13] [31] (W (.inl (by simpa using h7)))] ?_ ?_ (h:=by simp only[go_sem,seval,aw_,a5_];rfl))
  ·have q:=h1 (.inl (by simpa using h7));have q2:=(h9_ q 0 0);have q3:src s.expr 0 0≠[]:=(fun e=>by have:=(bk_ q 0).1;rw[←k1_ s.expr 0 0,e]at this;simp at this);simp[c7_,b0_,q3,fz_];omega
  refine .fX 32 ?_
  refine .ret ⟨.inr rfl,Out.pP Tryz.results132 ?_⟩;have k:s.kind=1:=(by simpa using h7);rw[if_pos (by omega),List.take_of_length_le (by simp[ci_];omega)];simp[dm_,k,wdR,peel,wEq,jl_,bz_]
 refine .seq (.rg [] ?_)
 refine .cB (fun h23=>?_) fun h23=>?_
 ·refine .seq (.rgo [at_ [13] [39] (W (.inr (.inl (by simpa using h23))))] ?_ ?_ (h:=by simp only[go_sem,seval,aw_,a5_];rfl))
  ·have q:=h1 (.inr (.inl (by simpa using h23)));have q2:=(h9_ q 0 0);have q3:src s.expr 0 0≠[]:=(fun e=>by have:=(bk_ q 0).1;rw[←k1_ s.expr 0 0,e]at this;simp at this);simp[c7_,b0_,q3,fz_];omega
  refine .fX 40 ?_
  refine .ret ⟨.inr rfl,Out.pP Tryz.results132 ?_⟩;have k:s.kind=2:=(by simpa using h23);rw[if_pos (by omega),List.take_of_length_le (by simp[ci_];omega)];simp[dm_,k,wdR,peel,bp_]
 refine .seq (.rg [] ?_)
 refine .cB (fun h31=>?_) fun h31=>?_
 ·refine .seq (.rgo [at_ [13] [47] (W (.inr (.inr (by simpa using h31))))] ?_ ?_ (h:=by simp only[go_sem,seval,aw_,a5_];rfl))
  ·have q:=h1 (.inr (.inr (by simpa using h31)));have q2:=(h9_ q 0 0);have q3:src s.expr 0 0≠[]:=(fun e=>by have:=(bk_ q 0).1;rw[←k1_ s.expr 0 0,e]at this;simp at this);simp[c7_,b0_,q3,fz_];omega
  refine .seq (.rgo [] ?_ ?_)
  ·have q:=h1 (.inr (.inr (by simpa using h31)));have q2:=(h9_ q 0 0);simp[c7_,b0_];omega
  refine .seq (.rgo [at_ [13] [56] (W3 (by simpa using h31))] ?_ ?_ (h:=by simp only[go_sem,seval,aw_,a5_];rfl))
  ·have q:=h1 (.inr (.inr (by simpa using h31)));have q2:=(h9_ q 0 0);have q4:=h9_ (h2 (by simpa using h31)) 0 (0+cnt s.expr);simp at q4;simp[c7_,b0_];omega
  refine .fX 57 ?_
  refine .ret ⟨.inr rfl,Out.pP Tryz.results132 ?_⟩;have k:s.kind=3:=(by simpa using h31);rw[if_pos (by omega),List.take_of_length_le (by simp[ci_];omega)];simp[dm_,k,wdR,peel,bp_,c8_]
 refine .skip (.seq (.rg [] ?_))
 refine .can (Can.slotLe 2 (.sl false []) (by simp only[go_sem,seval]<;>trivial) (by simp only[go_sem,seval]<;>rfl)) ?_
 refine .ret ⟨.inr rfl,Out.pP Tryz.results132 ?_⟩;have k:s.kind=0:=(by simp_all);simp[dm_,k,wdR]
theorem oz_ {s:Sl} (h:b9_ s=true):(ap_ (sw' s)).length≤1000:=by
 have:=o9_ h
 have h2:=uk_ (fun s hs=>(this.2 s hs).2)
 omega
attribute [local go_sem] a9_ dp_ in
theorem act_ (s:Sl) (h:b9_ s=true) (hs:d6_ s=true):ACall En 201 [.ag (sC s)] [] [.s (ap_ (sw' s))] []:=by
 have h1:=oz_ h
 have h2:=(o9_ h).1
 have h3:=tg_ h
 have h4:(dm_ s).length=(sw' s).length:=by rw[←h3,List.length_map]
 refine aa_ [] Tryz.func201 Tryz.ntmps201 fun C=>?_
 refine .seq (.rgo [] ?_ ?_ (h:=by simp only[go_sem,seval,h3];rfl))
 ·simp
 refine .seq (.rgo [ab_ (agi_ s h hs),ab_ (ls_ (dm_ s) (by omega)),ab_ (gh_ (sw' s) (by omega) (by omega))] ?_ ?_ (h:=by simp only[go_sem,seval,h3];rfl))
 ·simp
 refine .ret ⟨.inr rfl,?_⟩
 exact Out.pl (by simp only[Tryz.results201];rfl) (by simp only[ba_,go_sem,seval,h3]<;>(rfl)) (h1:=by simp only[a1_,bn_,go_sem,seval,h3]<;>(split<;>rfl)) (h3:=by simp only[go_sem,seval,h3])
attribute [local go_sem] a9_ in
theorem rf_ (s:Sl) (hs:d6_ s=true):ACall En 130 [.ag (sC s)] [] [.b (sok s)] []:=by
 obtain⟨s1,s1',s2,s3⟩:=gl_ hs
 refine aa_ [] Tryz.func130 Tryz.ntmps130 fun C=>?_
 refine .seq (.rg [] ?_)
 refine .seq (.rg [] ?_)
 refine .seqJ (fun q:Bool=>⟨[.no,.pt 11 11 0 0,.no,.b q,.no,.no,.no,.no,.no,.no,.no,.no,.no,.no,.no,.no,.no,.no,.no,.no,.no,.no,.no,.no,.no,.no,.no,.no,.no,.no,.no,.no,.no,.no,.no,.no,.no,.no,.no,.no,.no,.no,.no,.no,.no,.no,.no,.no,.no,.no,.no,.no,.no,.no,.no,.no,.no,.no,.no,.no,.no,.no,.no,.no,.no,.no,.no,.no,.no,.no,.no,.no,.no,.no,.no,.no,.no,.no,.no,.no,.no,.no,.no,.no,.no,.no,.no,.no,.no,.no,.no,.no,.no],ae_ [(11,⟨58,11,[sC s]⟩)],us [11]⟩) (fun q:Bool=>q=b9_ s) ?_ (fun q hJ=>?_)
 ·refine .seq (.rg [] ?_)
  refine .block (.seq (.rg [] ?_))
  refine .cB (fun h6=>?_) fun h6=>?_
  ·refine .rg [ab_ (fb_ s.expr s2),ab_ (fb_ s.thn s3)] ?_
   refine⟨b9_ s,?_,?_⟩
   ·rfl
   refine Can.wh ?_;(unfold b9_;simp_all)
  refine .seq (.rg [] ?_)
  refine .cB (fun h26=>?_) fun h26=>?_
  ·refine .rg [ab_ (o7_ s.name s1),ab_ (agw_ s.type),ab_ (hk_ s.expr s2),ab_ (fb_ s.thn s3)] ?_
   refine⟨b9_ s,?_,?_⟩
   ·rfl
   refine Can.wh ?_;(unfold b9_;simp_all)
  refine .seq (.rg [] ?_)
  refine .cB (fun h46=>?_) fun h46=>?_
  ·refine .rg [ab_ (hk_ s.expr s2),ab_ (fb_ s.thn s3)] ?_
   refine⟨b9_ s,?_,?_⟩
   ·rfl
   refine Can.wh ?_;(unfold b9_;simp_all)
  refine .seq (.rg [] ?_)
  refine .cB (fun h66=>?_) fun h66=>?_
  ·refine .rg [ab_ (hk_ s.expr s2),ab_ (hk_ s.thn s3)] ?_
   refine⟨b9_ s,?_,?_⟩
   ·rfl
   refine Can.wh ?_;(unfold b9_;simp_all)
  refine .skip ?_
  refine⟨b9_ s,?_,?_⟩
  ·rfl
  refine Can.wh ?_;(unfold b9_;simp_all)
 cases q
 ·refine .seq (.rg [a0_ (b9_ s=true) (fun h=>act_ s h hs)] ?_)
  refine .ret ⟨.inr rfl,Out.pP Tryz.results130 ?_⟩;rw[sok,←hJ];first|rfl|(rw[Bool.true_and,dt_];rfl)
 refine .seq (.rgo [a0_ (b9_ s=true) (fun h=>act_ s h hs)] ?_ ?_)
 ·(exact hJ.symm)
 refine .ret ⟨.inr rfl,Out.pP Tryz.results130 ?_⟩;rw[sok,←hJ];first|rfl|(rw[Bool.true_and,dt_];rfl)
theorem de_ {s:Sl} (h:sok s=true):b9_ s=true:=by simp only[sok,Bool.and_eq_true]at h;exact h.1
def ec_ (s:Sl):Str:=if sok s then ap_ (sw' s)else []
attribute [local go_sem] a9_ in
theorem ae8_ (s:Sl) (hs:d6_ s=true):ACall En 131 [.ag (sC s)] [] [.s (ec_ s)] []:=by
 refine aa_ [] Tryz.func131 Tryz.ntmps131 fun C=>?_
 refine .seq (.rg [] ?_)
 refine .seq (.seq (.rgo [ab_ (rf_ s hs)] ?_ ?_))
 ·simp
 refine .cB (fun h5=>?_) fun h5=>?_
 ·refine .seq (.rg [] ?_)
  refine .ret ⟨.inr rfl,Out.pP Tryz.results131 ?_⟩;simp at h5;simp[ec_,h5]
 refine .skip (.seq (.rgo [a0_ (sok s=true) (fun h=>act_ s (de_ h) hs)] ?_ ?_))
 ·simpa using h5
 refine .ret ⟨.inr rfl,Out.pP Tryz.results131 ?_⟩;simp at h5;simp[ec_,h5]
attribute [local go_sem] af_ ah_ List.length_append List.take_of_length_le a9_ in
theorem km_ (s:Sl) (h:b9_ s=true) (hs:d6_ s=true):ACall En 50 [.ag (sC s)] [] [.sl false (ai_ (sw' s))] []:=by
 obtain⟨h0,h1,h2⟩:=hc_ h
 obtain⟨s1,s1',s2,s3⟩:=gl_ hs
 have W:s.kind=1∨s.kind=2∨s.kind=3→_:=fun hk=>g8_ 5 s.expr 1 (ao_ (h1 hk)) s2 (h8_ (h1 hk)) (by decide) (by decide)
 have W3:s.kind=3→_:=fun hk=>g8_ 5 s.thn 1 (ao_ (h2 hk)) s3 (h8_ (h2 hk)) (by decide) (by decide)
 refine aa_ [] Tryz.func50 Tryz.ntmps50 fun C=>?_
 refine .seq (.rg [] ?_)
 refine .seq (.seq (.rg [] ?_))
 refine .block (.seq (.rg [] ?_))
 refine .cB (fun h6=>?_) fun h6=>?_
 ·refine .seq (.rgDo [ab_ (W (.inl (by simpa using h6)))] ?_ ?_)
  ·have q:=h1 (.inl (by simpa using h6));have q2:=(bk_ q 1);have q3:=sb_ q 1;simp[c7_,bb_,q3,hh_];omega
  refine .fX 26 ?_
  refine .ret ⟨.inr rfl,Out.pP Tryz.results50 ?_⟩;have k:s.kind=1:=(by simpa using h6);rw[if_pos (by omega),List.take_of_length_le (by simp[af_];omega)];simp[sw',k,ai_,peel,wEq,jl_,bz_]
 refine .seq (.rg [] ?_)
 refine .cB (fun h17=>?_) fun h17=>?_
 ·refine .seq (.rgo [ab_ (W (.inr (.inl (by simpa using h17))))] ?_ ?_)
  ·have q:=h1 (.inr (.inl (by simpa using h17)));have q2:=(bk_ q 1);have q3:=sb_ q 1;simp[c7_,bb_,q3,hh_];omega
  refine .fX 33 ?_
  refine .ret ⟨.inr rfl,Out.pP Tryz.results50 ?_⟩;have k:s.kind=2:=(by simpa using h17);rw[if_pos (by omega),List.take_of_length_le (by simp[af_];omega)];simp[sw',k,ai_,peel,bp_]
 refine .seq (.rg [] ?_)
 refine .cB (fun h24=>?_) fun h24=>?_
 ·refine .seq (.rgo [ab_ (W (.inr (.inr (by simpa using h24))))] ?_ ?_)
  ·have q:=h1 (.inr (.inr (by simpa using h24)));have q2:=(bk_ q 1);have q3:=sb_ q 1;simp[c7_,bb_,q3,hh_];omega
  refine .seq (.rgDo [ab_ (W3 (by simpa using h24))] ?_ ?_)
  ·have q:=h1 (.inr (.inr (by simpa using h24)));have q2:=(bk_ q 1);have q4:=bk_ (h2 (by simpa using h24)) 1;simp[c7_,bb_];omega
  refine .fX 47 ?_
  refine .ret ⟨.inr rfl,Out.pP Tryz.results50 ?_⟩;have k:s.kind=3:=(by simpa using h24);rw[if_pos (by omega),List.take_of_length_le (by simp[af_];omega)];simp[sw',k,ai_,peel,bp_,c8_]
 refine .skip (.seq (.rg [] ?_))
 refine .can (Can.slotLe 2 (.sl false []) (by simp only[go_sem,seval]<;>trivial) (by simp only[go_sem,seval]<;>rfl)) ?_
 refine .ret ⟨.inr rfl,Out.pP Tryz.results50 ?_⟩;have k:s.kind=0:=(by simp_all);simp[sw',k,ai_]
attribute [local go_sem] a9_ ah_ in
theorem mw_ (s:Sl) (hs:d6_ s=true):ACall En 48 [.ag (sC s)] [] [.b (sok s)] []:=by
 obtain⟨s1,s1',s2,s3⟩:=gl_ hs
 refine aa_ [] Tryz.func48 Tryz.ntmps48 fun C=>?_
 refine .seq (.rg [] ?_)
 refine .seq (.rg [] ?_)
 refine .seqJ (fun q:Bool=>⟨[.no,.pt 11 11 0 0,.no,.b q,.no,.no,.no,.no,.no,.no,.no,.no,.no,.no,.no,.no,.no,.no,.no,.no,.no,.no,.no,.no,.no,.no,.no,.no,.no,.no,.no,.no,.no,.no,.no,.no,.no,.no,.no,.no,.no,.no,.no,.no,.no,.no,.no,.no,.no,.no,.no,.no,.no,.no,.no,.no,.no,.no,.no,.no,.no,.no,.no,.no,.no,.no,.no,.no,.no,.no,.no,.no,.no,.no,.no,.no,.no,.no,.no,.no,.no,.no,.no,.no,.no,.no,.no,.no,.no,.no,.no,.no,.no,.no],ae_ [(11,⟨58,11,[sC s]⟩)],us [11]⟩) (fun q:Bool=>q=b9_ s) ?_ (fun q hJ=>?_)
 ·refine .seq (.rg [] ?_)
  refine .block (.seq (.rg [] ?_))
  refine .cB (fun h6=>?_) fun h6=>?_
  ·refine .rg [ab_ (hu_ s.expr s2),ab_ (hu_ s.thn s3)] ?_
   refine⟨b9_ s,?_,?_⟩
   ·rfl
   refine Can.wh ?_;(unfold b9_;simp_all)
  refine .seq (.rg [] ?_)
  refine .cB (fun h26=>?_) fun h26=>?_
  ·refine .rg [ab_ (p6_ s.name s1),ab_ (p7_ s.type),ab_ (hf_ s.expr s2),ab_ (hu_ s.thn s3)] ?_
   refine⟨b9_ s,?_,?_⟩
   ·rfl
   refine Can.wh ?_;(unfold b9_;simp_all)
  refine .seq (.rg [] ?_)
  refine .cB (fun h46=>?_) fun h46=>?_
  ·refine .rg [ab_ (hf_ s.expr s2),ab_ (hu_ s.thn s3)] ?_
   refine⟨b9_ s,?_,?_⟩
   ·rfl
   refine Can.wh ?_;(unfold b9_;simp_all)
  refine .seq (.rg [] ?_)
  refine .cB (fun h66=>?_) fun h66=>?_
  ·refine .rg [ab_ (hf_ s.expr s2),ab_ (hf_ s.thn s3)] ?_
   refine⟨b9_ s,?_,?_⟩
   ·rfl
   refine Can.wh ?_;(unfold b9_;simp_all)
  refine .skip ?_
  refine⟨b9_ s,?_,?_⟩
  ·rfl
  refine Can.wh ?_;(unfold b9_;simp_all)
 cases q
 ·refine .seq (.rg [a0_ (b9_ s=true) (fun h=>km_ s h hs),a0_ (b9_ s=true) (fun h=>ee_ (sw' s) (by have:=(o9_ h).1;omega) (by have:=oz_ h;omega))] ?_)
  refine .ret ⟨.inr rfl,Out.pP Tryz.results48 ?_⟩;rw[sok,←hJ];first|rfl|(rw[Bool.true_and,dt_];rfl)
 refine .seq (.rgo [a0_ (b9_ s=true) (fun h=>km_ s h hs),a0_ (b9_ s=true) (fun h=>ee_ (sw' s) (by have:=(o9_ h).1;omega) (by have:=oz_ h;omega))] ?_ ?_)
 ·(exact hJ.symm)
 refine .ret ⟨.inr rfl,Out.pP Tryz.results48 ?_⟩;rw[sok,←hJ];first|rfl|(rw[Bool.true_and,dt_];rfl)
end
section
theorem tx_ (a b:List Int):inR (a++b)=inR a++inR b:=by simp[inR]
theorem ae7_ (l:List Int):(∀r,r∈inR l→r.length=1)=True:=eq_true fun r hr=>by obtain⟨t,_,rfl⟩:=List.mem_map.1 hr;rfl
theorem agc_ (R:List (List V)) (z:List V) (hR:∀r∈R,r.length=1) (hz:z.length=1) (k j:Nat):((fi_ R z k).getD j []).drop 1=[]:=by
 rw[List.getD_eq_getElem?_getD]
 cases h:(fi_ R z k)[j]? with
 |none=>rfl
 |some r=>
  have hm:=List.mem_of_getElem? h
  have:r.length=1:=by
   rcases qd_ hm with hm|rfl
   ·exact hR r hm
   exact hz
  simp only[Option.getD_some];exact List.drop_of_length_le (by omega)
theorem alc_ {r:List V} {l:List Int} (h:r∈inR l):r.length=1:=by obtain⟨t,_,rfl⟩:=List.mem_map.1 h;rfl
def sR (l:List Sl):List (List V):=l.map sC
theorem dy_ (l:List Sl):(sR l).length=l.length:=by simp[sR]
theorem aw7_ (s:Sl):bu_ (sC s)=true:=by rw[a9_];simp only[bu_,V.pure,hr_,Bool.and_self]
theorem c3_ (l:List Sl):bg_ (sR l)=true:=kx_.2 fun r hr=>by obtain⟨s,_,rfl⟩:=List.mem_map.1 hr;exact aw7_ s
theorem j6_ {l:List Sl} {k:Nat} (h:k<l.length):(sR l).getD k []=sC (l.getD k S0):=by
 simp[sR,List.getD_eq_getElem?_getD,List.getElem?_eq_getElem h]
theorem a2c_ (s:Sl):(sC s).length=11:=by rw[a9_];rfl
theorem axm_ (l:List Sl):(∀r,r∈sR l→r.length=11)=True:=eq_true fun r hr=>by obtain⟨s,_,rfl⟩:=List.mem_map.1 hr;exact a2c_ s
theorem aim_ (a b:List Sl):sR (a++b)=sR a++sR b:=by simp[sR]
def n6_ {α:Type} (p:α→Bool) (l:List α):Int:=if l.any p then(l.findIdx p:Int)else -1
theorem o1_ {α:Type} {p:α→Bool} {l:List α} {k:Nat} {d:α} (h:k<l.length) (h1:(l.take k).any p=false) (h2:p (l.getD k d)=true):n6_ p l=k:=by
 have e:l[k]=l.getD k d:=by simp[List.getD_eq_getElem?_getD,List.getElem?_eq_getElem h]
 have ha:l.any p=true:=List.any_eq_true.2 ⟨l[k],List.getElem_mem h,by rw[e];exact h2⟩
 have hf:l.findIdx p=k:=(List.findIdx_eq h).2 ⟨by rw[e];exact h2,fun j hj=>by
  have h3:=List.any_eq_false.1 h1 l[j] (List.mem_iff_getElem?.2 ⟨j,by rw[List.getElem?_take_of_lt hj,List.getElem?_eq_getElem]⟩)
  simpa using h3⟩
 unfold n6_;rw[if_pos ha,hf]
theorem iu_ {α:Type} {p:α→Bool} {l:List α} (h:l.any p=false):n6_ p l = -1:=by unfold n6_;rw[h];rfl
theorem i6_ {α:Type} {p:α→Bool} {l:List α} {k:Nat} {d:α} (h:k<l.length):(l.take (k+1)).any p=((l.take k).any p||p (l.getD k d)):=by
 rw[List.take_add_one,List.getElem?_eq_getElem h,List.any_append,List.getD_eq_getElem?_getD,List.getElem?_eq_getElem h];simp
theorem m6_ {α:Type} (p:α→Bool) (l:List α):decide (n6_ p l ≥ 0)=l.any p:=by
 unfold n6_
 cases h:l.any p with
 |true=>rw[if_pos rfl];simp
 |false=>rfl
def p5_ (l:List Sl):Bool:=l.all d6_
theorem aal_ {l:List Sl} (h:p5_ l=true) {k:Nat} (hk:k<l.length):d6_ (l.getD k S0)=true:=List.all_eq_true.1 h _ (ag_ hk)
end
section
open Go.RowKit
theorem errU:En.P.underlying 44=some (.interface (En.P.methodsAt 44)):=by kernel_rfl
def intV (o:Option Int):V:=match o with|some n=>.i .i64 n|none=>.no
def kq_ (s:Str):Option Int:=match Lib.atoiAll s with|.ok v=>some v|_=>none
theorem aq0_ (s:Str) (hs:s.length≤281474976710656):ACall En 93 [.s s] [] [intV (kq_ s),ifV (kq_ s).isSome] []:=by
 refine gb_ (fn:=Tryz.f93) Tryz.func93 rfl rfl fun S w xs hx _ ⟨B,hB,_⟩=>?_
 simp only[VRs,VR]at hx
 obtain⟨x,r,e1,rfl,rfl⟩:=hx
 obtain rfl:xs=#[.string ⟨s.toArray⟩]:=by apply Array.ext';simpa using e1
 have hsz:(⟨s.toArray⟩:ByteArray).size≤281474976710656:=by simpa[ByteArray.size]using hs
 have hd:(⟨s.toArray⟩:ByteArray).data.toList=s:=by simp
 cases h:Lib.atoiAll s with
 |ok v=>
  have ho:kq_ s=some v:=by simp[kq_,h]
  refine(Tryz.strconv_Atoi_ok ⟨s.toArray⟩ (by omega) v (by rw[hd];exact h) w).mono ?_
  rintro e w' ⟨rfl,hw⟩
  refine⟨[.int .i64 v,.nilIface],rfl,?_,?_⟩
  ·rcases hw with rfl|⟨t,rfl⟩
   ·exact Below.refl _ _
   exact Lib.bytesWorld_below _ _ _
  rw[ho];exact .cons (by simp only[intV,VR]) (.cons (by simp[ifV,VR,Value.oneCell']) .nil)
 |range=>
  have ho:kq_ s=none:=by simp[kq_,h]
  obtain⟨tp,p,hv⟩:=hB.rng
  refine(Any.strconv_Atoi_range_var Tryz.laysC172 ⟨s.toArray⟩ hsz (by rw[hd];exact h) tp p w hv).mono ?_
  rintro e w' ⟨N,rfl,_,_,hb⟩
  exact⟨[_,_],rfl,hb,by rw[ho];exact .cons (by simp only[intV,VR]) (.cons (by simp[ifV,VR,Value.oneCell']) .nil)⟩
 |_=>
  have ho:kq_ s=none:=by simp[kq_,h]
  obtain⟨tp,p,hv⟩:=hB.syn
  refine(Any.strconv_Atoi_syntax_var Tryz.laysC172 ⟨s.toArray⟩ hsz (by rw[hd];exact h) tp p w hv).mono ?_
  rintro e w' ⟨N,rfl,_,_,hb⟩
  exact⟨[_,_],rfl,hb,by rw[ho];exact .cons (by simp only[intV,VR]) (.cons (by simp[ifV,VR,Value.oneCell']) .nil)⟩
def lc_ (s:Str):V:=if a8_ s then .i .i64 (am_ s)else .no
theorem kn_ (s:Str):(lc_ s).pure=true:=by unfold lc_;split<;>rfl
theorem y5_ (s:Str):peel (lc_ s)=lc_ s:=by unfold lc_;split<;>rfl
theorem uy_ (s:Str):dg_ (lc_ s)=true:=by unfold lc_;split<;>rfl
theorem aue_ (v:V):leV v .no=True:=by cases v<;>simp only[leV]
theorem n8_:∀(l:Str) (c:UInt8), -1≤Lib.indexByte l c
 |[],_=>by simp[Lib.indexByte]
 |b::l,c=>by
  have:=n8_ l c
  simp only[Lib.indexByte]
  split
  ·decide
  split<;>omega
theorem ab3_:∀(l:Str) (c:UInt8),0≤Lib.indexByte l c↔c∈l
 |[],_=>by simp[Lib.indexByte]
 |b::l,c=>by
  have h1:=n8_ l c
  have h2:=ab3_ l c
  rw[List.mem_cons,←h2,Lib.indexByte]
  by_cases hb:b=c
  ·subst hb;rw[if_pos (beq_self_eq_true b)];exact⟨fun _=>.inl rfl,fun _=>Int.le_refl _⟩
  rw[if_neg (by simpa using hb)]
  by_cases hc:Lib.indexByte l c = -1
  ·rw[if_pos (by rw[hc];rfl),hc];exact⟨fun h=>absurd h (by decide),fun h=>h.elim (fun e=>absurd e.symm hb) id⟩
  rw[if_neg (by simpa using hc)];exact⟨fun h=>.inr (by omega),fun h=>h.elim (fun e=>absurd e.symm hb) (fun h=>by omega)⟩
theorem lf_ (l:Str) (c:UInt8):decide (0≤Lib.indexByte l c)=l.contains c:=by
 rw[List.contains_eq_mem];exact decide_eq_decide.2 (ab3_ l c)
attribute [local go_sem] intV Option.isSome_none kn_ in
theorem ar0_ (s:Str) (hs:s.length≤281474976710656) (h:kq_ s=none):ACall En 43 [.s s] [] [lc_ s,.b (a8_ s)] []:=by
 have A:=aq0_ s hs
 rw[h]at A
 have hn:a8_ s=false:=atz_ fun v hv=>by simp[kq_,hv]at h
 refine aa_ [] Tryz.func43 Tryz.ntmps43 fun C=>?_
 refine .seq (.rg [] ?_)
 refine .seq (.rg [ab_ A] ?_)
 refine .seq (.rgS [13] [ifO En 44 false errU,ab_ (ta_ 0 0 1000000),ab_ (ri_ 0 (by decide) (by decide))] ?_)
 refine .ret ⟨.inr rfl,Out.pQ Tryz.results43 ?_⟩;simp[hn,lc_,aue_]
attribute [local go_sem] intV Option.isSome_some kn_ in
theorem at3_ (s:Str) (hs:s.length≤281474976710656) {v:Int} (h:kq_ s=some v):ACall En 43 [.s s] [] [lc_ s,.b (a8_ s)] []:=by
 have A:=aq0_ s hs
 rw[h]at A
 have hv:Lib.atoiAll s = .ok v:=by
  unfold kq_ at h
  split at h
  ·rename_i v' hv';cases h;exact hv'
  cases h
 refine aa_ [] Tryz.func43 Tryz.ntmps43 fun C=>?_
 refine .seq (.rg [] ?_)
 refine .seq (.rg [ab_ A] ?_)
 refine .seq (.rgS [13] [ifO En 44 true errU,ab_ (ta_ v 0 1000000),a0_ (0≤v∧v≤1000000) (fun h=>ri_ v (by omega) (by omega))] ?_)
 refine .ret ⟨.inr rfl,Out.pQ Tryz.results43 ?_⟩;have k:=ayj_ hv;cases hn:a8_ s;(simp only[hn]at k;simp only[lc_,hn];refine⟨?_,?_⟩;(simp only[Bool.false_eq_true,if_false];rw[aue_];trivial);simpa using k);(have hv2:=avo_ hv hn;simp only[lc_,hn,if_true];rw[←hv2];simp only[hn]at k;simp only[fv_];simpa using k)
theorem o6_ (s:Str) (hs:s.length≤281474976710656):ACall En 43 [.s s] [] [lc_ s,.b (a8_ s)] []:=by
 cases h:kq_ s with
 |none=>exact ar0_ s hs h
 |some v=>exact at3_ s hs h
theorem sw_ (s:Str) (c:UInt8):ACall En 127 [.s s,.s [c]] [] [.b (s.contains c)] []:=by
 refine gb_ (fn:=Tryz.f127) Tryz.func127 rfl rfl fun S w xs hx _ ⟨B,hB,_⟩=>?_
 simp only[VRs,VR]at hx
 obtain⟨x,r,e1,rfl,y,q,rfl,rfl,rfl⟩:=hx
 obtain rfl:xs=#[.string ⟨s.toArray⟩,.string ⟨#[c]⟩]:=by apply Array.ext';simpa using e1
 refine(Tryz.strings_Contains_one ⟨s.toArray⟩ c w).mono ?_
 rintro e w' ⟨rfl,rfl⟩
 refine⟨[_],rfl,Below.refl _ _,.cons ?_ .nil⟩
 simp only[VR]
 rw[←lf_]
end
section
attribute [local go_sem] kn_ y5_ uy_ in
theorem ar8_ (s:Str) (hs:s.length≤281474976710656):ACall En 258 [.i .i64 2,.s s] [] [.b (a8_ s)] []:=by
 refine aa_ [] Tryz.func258 Tryz.ntmps258 fun C=>?_
 refine .seq (.rg [] ?_)
 refine .seq (.seq (.rg [] ?_))
 refine .block (.seq (.rg [] ?_))
 refine .cB (fun h8=>?_) fun h8=>?_
 ·exact absurd h8 (by simp)
 refine .seq (.rg [] ?_)
 refine .cB (fun h20=>?_) fun h20=>?_
 ·refine .seq (.rg [ab_ (o6_ s hs)] ?_)
  refine .seq (.rg [] ?_)
  refine .ret ⟨.inr rfl,Out.pP Tryz.results258 ?_⟩;trivial
 exact absurd h20 (by simp)
theorem ahw_ (c:UInt8):ACall En 258 [.i .i64 3,.s [c]] [] [.b (fm_ [c])] []:=by
 refine aa_ [] Tryz.func258 Tryz.ntmps258 fun C=>?_
 refine .seq (.rg [] ?_)
 refine .seq (.seq (.rg [] ?_))
 refine .block (.seq (.rg [] ?_))
 refine .cB (fun h8=>?_) fun h8=>?_
 ·exact absurd h8 (by simp)
 refine .seq (.rg [] ?_)
 refine .cB (fun h20=>?_) fun h20=>?_
 ·exact absurd h20 (by simp)
 refine .seq (.rg [] ?_)
 refine .cB (fun h28=>?_) fun h28=>?_
 ·refine .seq (.rg [ab_ (sw_ marks c)] ?_)
  refine .ret ⟨.inr rfl,Out.pP Tryz.results258 ?_⟩;simp[fm_]
 exact absurd h28 (by simp)
theorem aip_ (s:Str) (h:s.length≠1):ACall En 258 [.i .i64 3,.s s] [] [.b (fm_ s)] []:=by
 have h2:((s.length:Int)==1)=false:=by simpa using(show ¬(s.length:Int)=1 by omega)
 refine aa_ [] Tryz.func258 Tryz.ntmps258 fun C=>?_
 refine .seq (.rg [] ?_)
 refine .seq (.seq (.rg [] ?_))
 refine .block (.seq (.rg [] ?_))
 refine .cB (fun h8=>?_) fun h8=>?_
 ·exact absurd h8 (by simp)
 refine .seq (.rg [] ?_)
 refine .cB (fun h20=>?_) fun h20=>?_
 ·exact absurd h20 (by simp)
 refine .seq (.rg [] ?_)
 refine .cB (fun h28=>?_) fun h28=>?_
 ·refine .seq (.rgo [ab_ (sw_ marks 0)] ?_ ?_)
  ·((simp[h2];done))
  refine .ret ⟨.inr rfl,Out.pP Tryz.results258 ?_⟩;simp[fm_,h,h2]
 exact absurd h28 (by simp)
def ut_ (k:Int) (s:Str):Bool:=if k=1 then e4_ s else if k=2 then a8_ s else fm_ s
theorem av8_ (k:Int) (hk:k=1∨k=2∨k=3) (s:Str) (hs:s.length≤281474976710656):ACall En 258 [.i .i64 k,.s s] [] [.b (ut_ k s)] []:=by
 rcases hk with rfl|rfl|rfl
 ·exact agp_ s (by omega)
 ·exact ar8_ s hs
 by_cases h:s.length=1
 ·obtain⟨c,rfl⟩:=List.length_eq_one_iff.1 h
  exact ahw_ c
 exact aip_ s h
theorem vr_ (s:Str):cv_ s=if ut_ 1 s then 1 else if ut_ 2 s then 2 else if ut_ 3 s then 3 else 0:=rfl
theorem aoc_ (s:Str) (hs:s.length≤281474976710656):ACall En 252 [.s s] [] [.i .i64 (cv_ s)] []:=by
 refine aa_ [] Tryz.func252 Tryz.ntmps252 fun C=>?_
 refine .seq (.rg [] ?_)
 refine .seq (.seq (.rg [] ?_))
 refine .block (.loopK (fun k:Int=>⟨[.s s,.no,.no,.i .i64 k,.no,.no,.no,.no,.no,.no,.no,.no],ae_ [],us []⟩) (fun k:Int=>1≤k∧k≤4∧(1<k→ut_ 1 s=false)∧(2<k→ut_ 2 s=false)∧(3<k→ut_ 3 s=false)) (fun k:Int=>(4 - k).toNat) (1) ?_ ?_ (fun k hI=>?_))
 ·simp
 ·refine Can.wh ?_;trivial
 refine .seq (.seq (.rg [] ?_))
 refine .cB (fun h5=>?_) fun h5=>?_
 ·refine .skip (.seq (.block (.seq (.rgo [a0_ (k=1∨k=2∨k=3) (fun h=>av8_ k h s hs)] ?_ ?_))))
  ·simp at h5;omega
  refine .cB (fun h10=>?_) fun h10=>?_
  ·refine .seq (.rg [] ?_)
   refine .ret ⟨.inr rfl,Out.pP Tryz.results252 ?_⟩;simp at h5;(have hk:k=1∨k=2∨k=3:=by omega);rw[vr_];rcases hk with rfl|rfl|rfl<;>simp_all
  refine .skip (.rg [] ?_)
  refine⟨k+1,?_,?_,?_⟩
  ·simp at h5;(have hk:k=1∨k=2∨k=3:=by omega);rcases hk with rfl|rfl|rfl<;>simp_all
  ·simp at h5;omega
  refine Can.wh ?_;rw[ac_ (by omega) (by omega)]
 refine .exit (.seq (.rg [] ?_))
 refine .ret ⟨.inr rfl,Out.pP Tryz.results252 ?_⟩;simp at h5;(have hk:k=4:=by omega);subst hk;simp_all[vr_]
def tkR (l:List Tk):List (List V):=l.map fun t=>[.i .i64 t.kind,.s t.s,.i .i64 t.col]
theorem hs_ (l:List Tk):(tkR l).length=l.length:=by simp[tkR]
theorem gv_:∀l:List Tk,bg_ (tkR l)=true
 |[]=>rfl
 |_::r=>by show(bu_ [_,_,_]&&bg_ (tkR r))=true;rw[gv_ r];rfl
theorem adz_ (l:List Tk) (t:Tk):tkR (l++[t])=tkR l++[[.i .i64 t.kind,.s t.s,.i .i64 t.col]]:=by simp[tkR]
theorem aq7_ (l:List Tk):(∀r,r∈tkR l→r.length=3)=True:=eq_true fun r hr=>by obtain⟨t,_,rfl⟩:=List.mem_map.1 hr;rfl
theorem tv_ {l:List Tk} {k:Nat} (h:k<l.length):(tkR l).getD k []=[.i .i64 (l.getD k ⟨0,[],0⟩).kind,.s (l.getD k ⟨0,[],0⟩).s,.i .i64 (l.getD k ⟨0,[],0⟩).col]:=by
 simp[tkR,List.getD_eq_getElem?_getD,List.getElem?_eq_getElem h]
attribute [local go_sem] gv_ in
theorem ans_ (l:List Tk) (n:Nat) (hn:n=l.length) (hl:l.length<1099511627776):ACall En 253 [.ow 0 3 0 n] [⟨144,3,tkR l⟩] [.ow 0 3 0 n] [⟨144,3,tkR l⟩]:=by
 refine aa_ [0] Tryz.func253 Tryz.ntmps253 fun C=>?_
 refine .seq (.rgo [] ?_ ?_)
 ·subst hn;simp[hs_]
 refine .seq (.rgo [] ?_ ?_)
 ·subst hn;simp[hs_]
 refine .ret ⟨.inr rfl,Out.mP Tryz.results253 ?_ ?_⟩
 ·simp
 trivial
theorem tu_ {l:Str} {k:Nat} (h:k<l.length) (col:Int):fp_ (l.drop k).length (l.drop k) col =
  if l.getD k 0=32 then fp_ (l.drop (k+1)).length (l.drop (k+1)) (col+1)
  else if cv_ ((l.drop k).take (d7_ (l.drop k)))=0 then none
  else(fp_ (l.drop (k+d7_ (l.drop k))).length (l.drop (k+d7_ (l.drop k))) (col+d7_ (l.drop k))).map (⟨cv_ ((l.drop k).take (d7_ (l.drop k))),(l.drop k).take (d7_ (l.drop k)),col⟩::·):=by
 have e:l.drop k=l.getD k 0::l.drop (k+1):=by
  rw[List.drop_eq_getElem_cons h,List.getD_eq_getElem?_getD,List.getElem?_eq_getElem h];rfl
 have h2:=mu_ (l.getD k 0) (l.drop (k+1)) col
 rw[←e,List.drop_drop]at h2
 exact h2
theorem jv_ {l:Str} {k:Nat} (h:k<l.length):l.getD k 0=32↔((l.getD k 0).toNat:Int)=32:=by
 constructor
 ·intro e;rw[e];rfl
 intro e;apply UInt8.toNat_inj.1;show _=32;omega
theorem wl_b {s:Str} {k:Nat} (h:k<s.length):1≤d7_ (s.drop k)∧k+d7_ (s.drop k)≤s.length:=by
 have h1:=pj_ (s.drop k)
 have h2:=aye_ (l:=s.drop k) (fun e=>by have:=congrArg List.length e;rw[List.length_drop]at this;simp only[List.length_nil]at this;omega)
 rw[List.length_drop]at h2
 omega
theorem v9_ (s:Str) (k w:Nat):(s.take (k+w)).drop k=(s.drop k).take w:=by rw[List.drop_take,Nat.add_sub_cancel_left]
theorem a2u_ (r:Str):(if ((r.takeWhile b1_).length:Int) > (if ((r.takeWhile cd_).length:Int) > 1 then((r.takeWhile cd_).length:Int)else 1)then((r.takeWhile b1_).length:Int)else(if ((r.takeWhile cd_).length:Int) > 1 then((r.takeWhile cd_).length:Int)else 1))=(d7_ r:Int):=by
 unfold d7_
 split<;>split at *<;>omega
theorem pc_ {s:Str} (h:120<s.length):az_ s=none:=by rw[az_,if_pos h]
theorem ii_ {s:Str} (h:s.length≤120):az_ s=fp_ s.length s 0:=by rw[az_,if_neg (by omega)]
theorem z1_ {s:Str} {k:Nat} (h:s.length≤k) (c:Int):fp_ (s.drop k).length (s.drop k) c=some []:=by rw[List.drop_of_length_le h];rfl
attribute [local go_sem] gv_ hs_ in
theorem x9_ (s:Str) (hs:s.length≤281474976710656):ACall En 194 [.s s] [] [.sl false (tkR ((az_ s).getD [])),.b (az_ s).isSome] []:=by
 refine aa_ [] Tryz.func194 Tryz.ntmps194 fun C=>?_
 refine .seq (.rg [] ?_)
 refine .seq (.seq (.rg [] ?_))
 refine .cB (fun h10=>?_) fun h10=>?_
 ·refine .seq (.rg [] ?_)
  refine .ret ⟨.inr rfl,Out.pQ Tryz.results194 ?_⟩;simp at h10;rw[pc_ (by omega)];simp[tkR,ler]
 refine .skip (.seq (.rg [] ?_))
 refine .seq (.seq (.rg [] ?_))
 refine .block (.loopK (fun k:Nat × List Tk=>⟨[.s s,.no,.no,.no,.ow 20 3 0 k.2.length,.i .i64 k.1,.no,.no,.no,.no,.no,.no,.no,.no,.no,.no,.no,.no,.no,.no,.no,.no,.no,.no,.no,.no,.no,.no,.no,.no,.no,.no,.no,.no,.no,.no,.no,.no,.no,.no,.no,.no,.no,.no,.no,.no,.no,.no,.no,.no,.no,.no,.no,.no,.no,.no,.no],ae_ [(20,⟨144,3,tkR k.2⟩)],us [20]⟩) (fun k:Nat × List Tk=>k.1≤s.length∧s.length≤120∧k.2.length≤k.1∧fp_ s.length s 0=(fp_ (s.drop k.1).length (s.drop k.1) k.1).map (k.2++·)) (fun k:Nat × List Tk=>s.length - k.1) ((0,[])) ?_ ?_ (fun k hI=>?_))
 ·simp at h10;simp;omega
 ·refine Can.trans (Can.ownSlot 4 20 144 3 (by simp only[go_sem,seval]<;>rfl) (by simp only[go_sem,seval]) (by simp only[go_sem,seval]<;>rfl)) ?_
  refine Can.wk ?_ ?_
  ·trivial
  rfl
 refine .seq (.seq (.rg [] ?_))
 refine .cB (fun h14=>?_) fun h14=>?_
 ·refine .skip (.block (.seq (.seq (.rgo [] ?_ ?_))))
  ·simp at h14;simp;exact h14
  refine .cB (fun h18=>?_) fun h18=>?_
  ·refine .seq (.rg [] ?_)
   refine .exit ?_
   refine Exists.intro ((k.1+1,k.2)) ⟨?_,?_,?_⟩
   ·simp only[decide_eq_true_eq]at h14;simp only[beq_iff_eq]at h18;obtain⟨i1,i2,i3,i4⟩:=hI;have e:=tu_ (show k.1<s.length by omega) k.1;rw[if_pos ((jv_ (by omega)).2 h18)]at e;exact⟨by dsimp only;omega,i2,by dsimp only;omega,by rw[i4,e];rfl⟩
   ·simp only[decide_eq_true_eq]at h14;dsimp only;omega
   refine Can.wh ?_;rw[ac_ (by omega) (by omega)];rfl
  refine .skip (.seqJ (fun u:Unit=>⟨[.s s,.no,.no,.no,.ow 20 3 0 k.2.length,.i .i64 k.1,.i .i64 (d7_ (s.drop k.1)),.no,.no,.no,.no,.no,.no,.no,.no,.no,.no,.no,.no,.no,.no,.no,.no,.no,.no,.no,.no,.no,.no,.no,.no,.no,.no,.no,.no,.no,.no,.no,.no,.no,.no,.no,.no,.no,.no,.no,.no,.no,.no,.no,.no,.no,.no,.no,.no,.no,.no],ae_ [(20,⟨144,3,tkR k.2⟩)],us [20]⟩) (fun u:Unit=>True) ?_ (fun u hJ=>?_))
  ·refine .rgDSo [29] [ab_ (aro_ cd_ 250 u8_ (s.drop k.1) (by simp;omega)),ab_ (aro_ b1_ 251 anf_ (s.drop k.1) (by simp;omega)),maxO En] ?_ ?_
   ·simp at h14;simp;omega
   refine Exists.intro (()) ⟨?_,?_⟩
   ·trivial
   refine Can.wh ?_;rw[a2u_]
  refine .seq (.rgDo [ab_ (aoc_ ((s.drop k.1).take (d7_ (s.drop k.1))) (by simp;omega))] ?_ ?_ (h:=by simp only[go_sem,seval,show IntKind.i64.wrap ((k.1:Int)+(d7_ (s.drop k.1):Int))=((k.1+d7_ (s.drop k.1):Nat):Int) by(have:=wl_b (show k.1<s.length by simpa using h14);rw[ac_ (by omega) (by omega)];rfl),v9_];rfl))
  ·have h14':k.1<s.length:=(by simpa using h14);have:=wl_b h14';simp[c7_];omega
  refine .seq (.seq (.rg [] ?_))
  refine .cB (fun h47=>?_) fun h47=>?_
  ·refine .seq (.rg [] ?_)
   refine .ret ⟨.inr rfl,Out.pQ Tryz.results194 ?_⟩;simp only[decide_eq_true_eq]at h14;simp only[beq_eq_false_iff_ne]at h18;simp only[beq_iff_eq]at h47;have e:=tu_ (show k.1<s.length by omega) k.1;rw[if_neg (fun h=>h18 ((jv_ (by omega)).1 h)),if_pos h47]at e;rw[ii_ (by omega),hI.2.2.2,e];simp[tkR,ler]
  refine .skip (.seq (.rgo [] ?_ ?_))
  ·simp[aq7_];omega
  refine .rg [] ?_
  refine Exists.intro ((k.1+d7_ (s.drop k.1),k.2++[⟨cv_ ((s.drop k.1).take (d7_ (s.drop k.1))),(s.drop k.1).take (d7_ (s.drop k.1)),k.1⟩])) ⟨?_,?_,?_⟩
  ·simp only[decide_eq_true_eq]at h14;simp only[beq_eq_false_iff_ne]at h18 h47;obtain⟨i1,i2,i3,i4⟩:=hI;have e:=tu_ (show k.1<s.length by omega) k.1;rw[if_neg (fun h=>h18 ((jv_ (by omega)).1 h)),if_neg h47]at e;have hb:=wl_b (show k.1<s.length by omega);exact⟨by dsimp only;omega,i2,by simp only[List.length_append,List.length_singleton];omega,by rw[i4,e,Option.map_map];simp[Function.comp_def]⟩
  ·simp only[decide_eq_true_eq]at h14;have hb:=wl_b (show k.1<s.length by omega);dsimp only;omega
  refine Can.trans (Can.sX 61 20) ?_
  refine Can.wk ?_ ?_
  ·(have hb:=wl_b (show k.1<s.length by simpa using h14));rw[ac_ (by omega) (by omega)];simp
  rw[adz_]
 refine .exit (.seq (.rgo [at_ [20] [] (ans_ k.2 k.2.length rfl (by omega))] ?_ ?_))
 ·simp[aw_,a5_,gv_]
 refine .fX 20 ?_
 refine .ret ⟨.inr rfl,Out.pQ Tryz.results194 ?_⟩;simp only[decide_eq_false_iff_not]at h14;rw[ii_ (by omega),hI.2.2.2,z1_ (by omega)];simp[List.take_of_length_le,hs_,leV,ad_]
end
section
def shf (k:Int) (l:Wd):Wd:=l.map fun p=>if 0≤p.2 then(p.1,p.2+k)else p
theorem ax5_ (k:Int) (a b:Wd):shf k (a++b)=shf k a++shf k b:=by simp[shf]
theorem ih_ (k:Int) (a:Wd):(shf k a).length=a.length:=by simp[shf]
theorem qo_ (a:Wd):shf 0 a=a:=by
 unfold shf
 conv=>rhs;rw[←List.map_id a]
 congr 1;funext p
 split<;>simp
theorem abh_ (k:Int) (a:Wd):(shf k a).map (·.1)=a.map (·.1):=by
 unfold shf;rw[List.map_map];congr 1;funext p;simp only[Function.comp];split<;>rfl
mutual
def l8:E→Int→Int→Wd
 |.mk k n s kids,t,b=>
  if k=1 then [(Go.Lib.decDigits n.toNat,0)]
  else if k=2 then [(s,0)]
  else if k=3 then brk (decide (ak_ s<b)) (shf (if ak_ s<t then 1 else 0) (l8A kids (max 2 (ak_ s)) (max 2 (ak_ s))++(s,wlA kids (max 2 (ak_ s)))::shf (wlA kids (max 2 (ak_ s))+1) (l8B kids (ak_ s+1))))
  else if k=4 then l8A kids 4 b
  else []
def l8A:List E→Int→Int→Wd
 |[],_,_=>[]
 |e::_,t,b=>l8 e t b
def l8B:List E→Int→Wd
 |[],_=>[]
 |_::r,t=>l8A r t t
def wlA:List E→Int→Int
 |[],_=>0
 |e::_,t=>(wds e t).length
end
theorem ara_ {e:E} (h:e.kind=1) (t b:Int):l8 e t b=[(Go.Lib.decDigits e.n.toNat,0)]:=by
 cases e;simp only[E.kind]at h;subst h;simp[l8,E.n]
theorem alr_ {e:E} (h:e.kind=2) (t b:Int):l8 e t b=[(e.s,0)]:=by
 cases e;simp only[E.kind]at h;subst h;simp[l8,E.s]
theorem aua_ {e:E} (h:e.kind=3) (hl:e.kids.length=2) (t b:Int):l8 e t b=brk (decide (ak_ e.s<b)) (shf (if ak_ e.s<t then 1 else 0) (l8 (e.kids.getD 0 E0) (max 2 (ak_ e.s)) (max 2 (ak_ e.s))++(e.s,((wds (e.kids.getD 0 E0) (max 2 (ak_ e.s))).length:Int))::shf ((wds (e.kids.getD 0 E0) (max 2 (ak_ e.s))).length+1) (l8 (e.kids.getD 1 E0) (ak_ e.s+1) (ak_ e.s+1)))):=by
 cases e with
 |mk k n s kids=>
  simp only[E.kind]at h;subst h
  simp only[E.kids]at hl
  match kids,hl with
  |[x,y],_=>simp[l8,l8A,l8B,wlA,E.s,E.kids];rfl
theorem a0p_ {e:E} (h:e.kind=4) (hl:e.kids.length=1) (t b:Int):l8 e t b=l8 (e.kids.getD 0 E0) 4 b:=by
 cases e with
 |mk k n s kids=>
  simp only[E.kind]at h;subst h
  simp only[E.kids]at hl
  match kids,hl with
  |[a],_=>simp[l8,l8A,E.kids]
def Trc (L:Wd):Wd→Wd→Prop
 |[],[]=>True
 |w::B,c::C=>c.1=w.1∧((w.2 = -1∧c.2 = -1)∨(0≤w.2∧0≤c.2∧L[c.2.toNat]? = some w))∧Trc L B C
 |_,_=>False
theorem Trc.app {L:Wd}:∀ {B C B' C':Wd},Trc L B C→Trc L B' C'→Trc L (B++B') (C++C')
 |[],[],_,_,_,h=>h
 |[],_::_,_,_,h,_=>by simp[Trc]at h
 |_::_,[],_,_,h,_=>by simp[Trc]at h
 |w::B,c::C,B',C',h,k=>by
  simp only[Trc]at h
  simp only[List.cons_append,Trc]
  exact⟨h.1,h.2.1,h.2.2.app k⟩
theorem Trc.shf {L P:Wd}:∀ {B C:Wd},Trc L B C→Trc (P++L) B (Go.Proofs.YthjccajoadjicaaGreatDoor.shf P.length C)
 |[],[],_=>by simp[Go.Proofs.YthjccajoadjicaaGreatDoor.shf,Trc]
 |[],_::_,h=>by simp[Trc]at h
 |_::_,[],h=>by simp[Trc]at h
 |w::B,c::C,h=>by
  simp only[Trc]at h
  have ih:=h.2.2.shf (P:=P)
  simp only[Go.Proofs.YthjccajoadjicaaGreatDoor.shf,List.map_cons,Trc]at ih ⊢
  rcases h.2.1 with⟨h1,h2⟩|⟨h1,h2,h3⟩
  ·rw[if_neg (by omega)];exact⟨h.1,.inl ⟨h1,h2⟩,ih⟩
  rw[if_pos h2]
  refine⟨h.1,.inr ⟨h1,by dsimp only;omega,?_⟩,ih⟩
  dsimp only
  rw[show(c.2+(P.length:Int)).toNat=P.length+c.2.toNat by omega,List.getElem?_append_right (by omega),Nat.add_sub_cancel_left]
  exact h3
theorem Trc.right {L Q:Wd}:∀ {B C:Wd},Trc L B C→Trc (L++Q) B C
 |[],[],_=>by simp[Trc]
 |[],_::_,h=>by simp[Trc]at h
 |_::_,[],h=>by simp[Trc]at h
 |w::B,c::C,h=>by
  simp only[Trc]at h ⊢
  refine⟨h.1,?_,h.2.2.right⟩
  rcases h.2.1 with h1|⟨h1,h2,h3⟩
  ·exact .inl h1
  exact .inr ⟨h1,h2,by rw[List.getElem?_append_left (List.getElem?_eq_some_iff.1 h3).1];exact h3⟩
theorem Trc.brk {L B C:Wd} (b:Bool) (h:Trc L B C):Trc L (Go.Proofs.YthjccajoadjicaaGreatDoor.brk b B) (Go.Proofs.YthjccajoadjicaaGreatDoor.brk b C):=by
 cases b with
 |false=>exact h
 |true=>
  simp only[Go.Proofs.YthjccajoadjicaaGreatDoor.brk,if_true,Trc]
  refine⟨trivial,.inl ⟨trivial,trivial⟩,h.app ?_⟩
  simp[Trc]
theorem aev_ {e:E} (h:e.kind=1∨e.kind=2) (hl:e.kids=[]):cnt e=1:=by
 cases e;simp only[E.kind,E.kids]at h hl;subst hl;rcases h with h|h<;>subst h<;>simp[cnt,xp_]
theorem lr_:∀(d:Nat) (e:E),form e d=true→cnt (bare e)=cnt e
 |0,e,h=>by have:=(aj_ h).1;omega
 |d+1,e,h=>by
  have e1:((d+1:Nat):Int) - 1=(d:Int):=by omega
  obtain⟨h0,h1|h1|h1|h1⟩:=aj_ h
  ·rw[eq_ (by omega) h1.2.2.2.2]
  ·rw[eq_ (by omega) h1.2.2.2]
  ·obtain⟨k,hn,ho,hl,ha,hb⟩:=h1
   rw[e1]at ha hb
   rw[l2_ k hl,oj_ (e:=.mk 3 e.n e.s [_,_]) rfl rfl,oj_ k hl]
   show 1+cnt (bare (e.kids.getD 0 E0))+cnt (bare (e.kids.getD 1 E0))=_
   rw[lr_ d _ ha,lr_ d _ hb]
  obtain⟨k,hn,ho,hl,ha⟩:=h1
  rw[e1]at ha
  rw[p2_ k hl,abx_ k hl,lr_ d _ ha]
theorem t2_ {e:E} (h:e.kind=1) (must nx:Int):src e must nx=[(Go.Lib.decDigits e.n.toNat,nx)]:=by
 cases e;simp only[E.kind]at h;subst h;simp[src,E.n]
theorem ox_ {e:E} (h:e.kind=2) (must nx:Int):src e must nx=[(e.s,nx)]:=by
 cases e;simp only[E.kind]at h;subst h;simp[src,E.s]
theorem qu_ (e:E) (must nx:Int):(src e must nx).length=(wds e must).length:=by
 rw[←eu_ e must nx,List.length_map]
theorem k8_:∀(d:Nat) (e:E) (t b nx:Int),form e d=true→t≤4→b≤4→0≤nx→Trc (src e t nx) (src (bare e) b nx) (l8 e t b)
 |0,e,t,b,nx,h,_,_,_=>by have:=(aj_ h).1;omega
 |d+1,e,t,b,nx,h,ht,hb4,hn0=>by
  have e1:((d+1:Nat):Int) - 1=(d:Int):=by omega
  obtain⟨h0,h1|h1|h1|h1⟩:=aj_ h
  ·rw[eq_ (by omega) h1.2.2.2.2,t2_ h1.1,t2_ h1.1,ara_ h1.1]
   simp[Trc,hn0]
  ·rw[eq_ (by omega) h1.2.2.2,ox_ h1.1,ox_ h1.1,alr_ h1.1]
   simp[Trc,hn0]
  ·obtain⟨k,hn,ho,hl,ha,hb⟩:=h1
   rw[e1]at ha hb
   have htt:=by_ ho
   have A:=k8_ d _ (max 2 (ak_ e.s)) (max 2 (ak_ e.s)) (nx+1) ha (by omega) (by omega) (by omega)
   have hc:=cw_ d _ 0 ha
   have B:=k8_ d _ (ak_ e.s+1) (ak_ e.s+1) (nx+1+cnt (e.kids.getD 0 E0)) hb (by omega) (by omega) (by omega)
   rw[l2_ k hl,jx_ k hl,jx_ (e:=.mk 3 e.n e.s [_,_]) rfl rfl,aua_ k hl]
   refine Trc.brk _ ?_
   show Trc _ (src (bare (e.kids.getD 0 E0)) (max 2 (ak_ e.s)) (nx+1)++(e.s,nx)::src (bare (e.kids.getD 1 E0)) (ak_ e.s+1) (nx+1+cnt (bare (e.kids.getD 0 E0)))) _
   rw[lr_ d _ ha]
   have core:Trc (src (e.kids.getD 0 E0) (max 2 (ak_ e.s)) (nx+1)++(e.s,nx)::src (e.kids.getD 1 E0) (ak_ e.s+1) (nx+1+cnt (e.kids.getD 0 E0)))
     (src (bare (e.kids.getD 0 E0)) (max 2 (ak_ e.s)) (nx+1)++(e.s,nx)::src (bare (e.kids.getD 1 E0)) (ak_ e.s+1) (nx+1+cnt (e.kids.getD 0 E0)))
     (l8 (e.kids.getD 0 E0) (max 2 (ak_ e.s)) (max 2 (ak_ e.s))++(e.s,((wds (e.kids.getD 0 E0) (max 2 (ak_ e.s))).length:Int))::shf ((wds (e.kids.getD 0 E0) (max 2 (ak_ e.s))).length+1) (l8 (e.kids.getD 1 E0) (ak_ e.s+1) (ak_ e.s+1))):=by
    refine A.right.app ?_
    have B2:=B.shf (P:=src (e.kids.getD 0 E0) (max 2 (ak_ e.s)) (nx+1)++[(e.s,nx)])
    rw[List.length_append,qu_,List.length_singleton,List.append_assoc,List.singleton_append]at B2
    simp only[Trc]
    refine⟨trivial,.inr ⟨hn0,by omega,?_⟩,by simpa using B2⟩
    rw[Int.toNat_natCast,←qu_ _ _ (nx+1),List.getElem?_append_right (Nat.le_refl _),Nat.sub_self];rfl
   cases hlt:decide (ak_ e.s<t)with
   |false=>
    simp only[decide_eq_false_iff_not]at hlt
    rw[if_neg hlt,qo_];exact core
   |true=>
    simp only[decide_eq_true_eq]at hlt
    rw[if_pos hlt]
    have:=(core.shf (P:=[([40], -1)])).right (Q:=[([41], -1)])
    simpa[brk]using this
  obtain⟨k,hn,ho,hl,ha⟩:=h1
  rw[e1]at ha
  rw[p2_ k hl,re_ k hl,a0p_ k hl]
  exact(k8_ d _ 4 b nx ha (by omega) hb4 hn0).right
theorem Trc.fst {L:Wd}:∀ {B C:Wd},Trc L B C→C.map (·.1)=B.map (·.1)
 |[],[],_=>rfl
 |[],_::_,h=>by simp[Trc]at h
 |_::_,[],h=>by simp[Trc]at h
 |w::B,c::C,h=>by
  simp only[Trc]at h
  simp only[List.map_cons,h.1,h.2.2.fst]
def ids (l:Wd):List Int:=(l.map (·.2)).filter fun k=>decide (0≤k)
theorem t9_ (a b:Wd):ids (a++b)=ids a++ids b:=by simp[ids]
theorem ko_ (p:Str × Int) (b:Wd):ids (p::b)=if 0≤p.2 then p.2::ids b else ids b:=by
 simp only[ids,List.map_cons,List.filter_cons,decide_eq_true_eq]
theorem aky_:ids []=[]:=rfl
theorem axd_ (b:Bool) (l:Wd):ids (brk b l)=ids l:=by
 cases b<;>simp[brk,t9_,ko_,aky_]
theorem tj_:∀(d:Nat) (e:E) (must nx:Int),form e d=true→0≤nx→(ids (src e must nx)).Nodup∧∀i∈ids (src e must nx),nx≤i∧i<nx+cnt e
 |0,e,must,nx,h,_=>by have:=(aj_ h).1;omega
 |d+1,e,must,nx,h,hn0=>by
  have e1:((d+1:Nat):Int) - 1=(d:Int):=by omega
  obtain⟨h0,h1|h1|h1|h1⟩:=aj_ h
  ·rw[t2_ h1.1,aev_ (.inl h1.1) h1.2.2.2.2];simp[ids,hn0];omega
  ·rw[ox_ h1.1,aev_ (.inr h1.1) h1.2.2.2];simp[ids,hn0];omega
  ·obtain⟨k,hn,ho,hl,ha,hb⟩:=h1
   rw[e1]at ha hb
   have hc:=cw_ d _ 0 ha
   have hc2:=cw_ d _ 0 hb
   obtain⟨a1,a2⟩:=tj_ d _ (max 2 (ak_ e.s)) (nx+1) ha (by omega)
   obtain⟨b1,b2⟩:=tj_ d _ (ak_ e.s+1) (nx+1+cnt (e.kids.getD 0 E0)) hb (by omega)
   rw[jx_ k hl,axd_,t9_,ko_,if_pos hn0,oj_ k hl]
   refine⟨?_,fun i hi=>?_⟩
   ·rw[List.nodup_append]
    refine⟨a1,List.nodup_cons.2 ⟨fun hm=>by have:=b2 _ hm;omega,b1⟩,fun x hx y hy=>?_⟩
    have q1:=a2 x hx
    rcases List.mem_cons.1 hy with rfl|hy
    ·omega
    have q2:=b2 y hy;omega
   rcases List.mem_append.1 hi with hi|hi
   ·have:=a2 i hi;omega
   rcases List.mem_cons.1 hi with rfl|hi
   ·omega
   have:=b2 i hi;omega
  obtain⟨k,hn,ho,hl,ha⟩:=h1
  rw[e1]at ha
  rw[re_ k hl,t9_,abx_ k hl]
  have:=tj_ d _ 4 nx ha hn0
  have e2:ids [([97,115], -1),(e.s, -1)]=[]:=by simp[ids]
  rw[e2,List.append_nil];exact this
def gw_:Int→Wd→Int→Int
 |_,[],_=> -1
 |c,w::r,i=>if w.2=i then c else gw_ (c+w.1.length+1) r i
def ic_ (l:Wd):Int:=(wid (l.map (·.1)):Int)
theorem xr_ (w:Str × Int) (l:Wd):ic_ (w::l)=w.1.length+1+ic_ l:=by simp[ic_,ki_]
theorem qa_ (a b:Wd):ic_ (a++b)=ic_ a+ic_ b:=by simp[ic_,la_]
theorem qk_:ic_ []=0:=rfl
theorem ua_ (l:Wd):0≤ic_ l:=by unfold ic_;omega
theorem qs_ (i:Int):∀(a b:Wd) (c:Int),gw_ c (a++b) i=if i∈a.map (·.2)then gw_ c a i else gw_ (c+ic_ a) b i
 |[],b,c=>by simp[qk_]
 |w::a,b,c=>by
  have ih:=qs_ i a b (c+w.1.length+1)
  simp only[List.cons_append,gw_,List.map_cons,List.mem_cons]
  by_cases h:w.2=i
  ·simp[h]
  have h':¬i=w.2:=fun e=>h e.symm
  simp only[h,if_false,h',false_or,ih,xr_]
  split
  ·rfl
  congr 1;omega
theorem q3_ (i:Int) (d:Int):∀(a:Wd) (c:Int),i∈a.map (·.2)→gw_ (c+d) a i=gw_ c a i+d
 |[],c,h=>by simp at h
 |w::a,c,h=>by
  simp only[gw_]
  by_cases e:w.2=i
  ·rw[if_pos e,if_pos e]
  rw[if_neg e,if_neg e]
  simp only[List.map_cons,List.mem_cons]at h
  have:=q3_ i d a (c+w.1.length+1) (h.resolve_left fun q=>e q.symm)
  rw[←this];congr 1;omega
theorem aao_ {l:Wd} {i:Int}:i∈ids l↔i∈l.map (·.2)∧0≤i:=by simp[ids]
theorem qi_:∀ {l:Wd} {j:Nat} {w:Str × Int} (c:Int),(ids l).Nodup→l[j]? = some w→0≤w.2→(b3_ c (l.map (·.1)))[j]? = some (gw_ c l w.2)
 |[],j,w,c,_,h,_=>by simp at h
 |v::l,0,w,c,_,h,_=>by
  simp only[List.getElem?_cons_zero,Option.some.injEq]at h;subst h
  simp[b3_,gw_]
 |v::l,j+1,w,c,hn,h,h0=>by
  simp only[List.getElem?_cons_succ]at h
  have hm:w.2∈ids l:=aao_.2 ⟨List.mem_map.2 ⟨w,List.mem_of_getElem? h,rfl⟩,h0⟩
  rw[ko_]at hn
  have hne:v.2≠w.2:=fun e=>by
   rw[if_pos (by omega)]at hn
   exact(List.nodup_cons.1 hn).1 (by rw[e];exact hm)
  have hn':(ids l).Nodup:=by
   split at hn
   ·exact(List.nodup_cons.1 hn).2
   exact hn
  simp only[List.map_cons,b3_,List.getElem?_cons_succ,gw_,if_neg hne]
  exact qi_ _ hn' h h0
theorem zc_:∀(M:List (Int × Int)) (k v i:Int),lu_ (nl_ M k v) i=if i=k then some v else lu_ M i
 |[],k,v,i=>by simp[nl_,lu_]
 |(a,b)::M,k,v,i=>by
  have ih:=zc_ M k v i
  simp only[nl_]
  by_cases h:k=a
  ·subst h
   simp only[if_true,lu_]
   split<;>rfl
  rw[if_neg h]
  simp only[lu_,ih]
  by_cases e:i=a
  ·rw[if_pos e,if_neg (fun q=>h (q.symm.trans e)),if_pos e]
  rw[if_neg e,if_neg e]
def tb_ (l:Wd) (k:Nat):List (Int × Int):=(((l.map (·.2)).zip (b3_ 0 (l.map (·.1)))).take k).foldl (fun M p=>nl_ M p.1 p.2) []
theorem cn_:∀(c:Int) (l:List Str),(b3_ c l).length=l.length
 |_,[]=>rfl
 |c,w::r=>by simp only[b3_,List.length_cons,cn_]
theorem an4_ (l:Wd):tb_ l 0=[]:=rfl
theorem and_ {l:Wd} {k:Nat} (h:k<l.length):tb_ l (k+1)=nl_ (tb_ l k) (l.getD k ([],0)).2 ((b3_ 0 (l.map (·.1))).getD k 0):=by
 have h2:k<((l.map (·.2)).zip (b3_ 0 (l.map (·.1)))).length:=by rw[List.length_zip,List.length_map,cn_,List.length_map];omega
 have h3:k<(b3_ 0 (l.map (·.1))).length:=by rw[cn_,List.length_map];exact h
 unfold tb_
 rw[List.take_add_one,List.getElem?_eq_getElem h2,List.foldl_append]
 simp[List.getD_eq_getElem?_getD,List.getElem?_eq_getElem h,List.getElem?_eq_getElem h3]
theorem yp_ (i v:Int):∀(Z M:List (Int × Int)),(∀c,(i,c)∈Z→c=v)→((i,v)∈Z∨lu_ M i=some v)→lu_ (Z.foldl (fun M p=>nl_ M p.1 p.2) M) i=some v
 |[],M,_,h=>by simpa using h
 |(a,b)::Z,M,hu,h=>by
  refine yp_ i v Z _ (fun c hc=>hu c (List.mem_cons_of_mem _ hc)) ?_
  rw[zc_]
  by_cases e:i=a
  ·subst e
   have:=hu b List.mem_cons_self
   subst this
   right;simp
  rw[if_neg e]
  rcases h with h|h
  ·rcases List.mem_cons.1 h with h|h
   ·simp only[Prod.mk.injEq]at h;exact absurd h.1 e
   exact .inl h
  exact .inr h
theorem asy_ {l:Wd} (hn:(ids l).Nodup) {i:Int} (hi:i∈ids l):lu_ (tb_ l l.length) i=some (gw_ 0 l i):=by
 obtain⟨hm,h0⟩:=aao_.1 hi
 obtain⟨w,hw,hwi⟩:=List.mem_map.1 hm
 have hz:∀c,(i,c)∈(l.map (·.2)).zip (b3_ 0 (l.map (·.1)))→c=gw_ 0 l i:=fun c hc=>by
  obtain⟨j,hj⟩:=List.mem_iff_getElem?.1 hc
  rw[List.getElem?_zip_eq_some]at hj
  obtain⟨j1,j2⟩:=hj
  rw[List.getElem?_map]at j1
  obtain⟨u,u1,u2⟩:=Option.map_eq_some_iff.1 j1
  have:=qi_ 0 hn u1 (by rw[u2];exact h0)
  rw[j2,u2]at this
  exact Option.some.inj this
 unfold tb_
 rw[List.take_of_length_le (by rw[List.length_zip,List.length_map];omega)]
 refine yp_ i _ _ _ hz (.inl ?_)
 obtain⟨j,hj⟩:=List.mem_iff_getElem?.1 hw
 have:=qi_ 0 hn hj (by rw[hwi];exact h0)
 rw[hwi]at this
 refine List.mem_iff_getElem?.2 ⟨j,?_⟩
 rw[List.getElem?_zip_eq_some]
 exact⟨by rw[List.getElem?_map,hj];simp[hwi],this⟩
theorem rx_:∀(l:List Str) (c:Int) {k:Nat},k<l.length→(b3_ c l).getD k 0=c+wid (l.take k)
 |[],c,k,h=>by simp at h
 |w::r,c,0,_=>by simp[b3_,ach_]
 |w::r,c,k+1,h=>by
  have:=rx_ r (c+w.length+1) (k:=k) (by simpa using h)
  simp only[b3_,List.getD_cons_succ,List.take_succ_cons,ki_,this]
  omega
theorem aqo_ {l:List Str} {k:Nat} (h:k<l.length):wid (l.take (k+1))=wid (l.take k)+((l.getD k []).length+1):=by
 rw[List.take_add_one,List.getElem?_eq_getElem h,la_,List.getD_eq_getElem?_getD,List.getElem?_eq_getElem h];rfl
theorem ay5_ (l:List Str) (k:Nat):wid (l.take k)≤wid l:=by
 conv=>rhs;rw[←List.take_append_drop k l]
 rw[la_];omega
theorem Trc.lt {L:Wd}:∀ {B C:Wd},Trc L B C→∀p∈C, -1≤p.2∧p.2<(L.length:Int)
 |[],[],_=>by simp
 |[],_::_,h=>by simp[Trc]at h
 |_::_,[],h=>by simp[Trc]at h
 |w::B,c::C,h=>by
  simp only[Trc]at h
  intro p hp
  rcases List.mem_cons.1 hp with rfl|hp
  ·rcases h.2.1 with⟨_,h2⟩|⟨_,h2,h3⟩
   ·omega
   have:=(List.getElem?_eq_some_iff.1 h3).1;omega
  exact h.2.2.lt p hp
theorem Trc.len {L:Wd} {B C:Wd} (h:Trc L B C):C.length=B.length:=by
 have:=congrArg List.length h.fst;simpa using this
theorem ke_ (d:Nat) (e:E) (h:form e d=true) (hm:many e d≤1000) (m:Int):(wds e m).length≤3000:=by
 have:=cw_ d e m h;omega
theorem o3_ {d:Nat} {e:E} {t b:Int} (h:form e d=true) (hm:many e d≤1000) (ht:t≤4) (hb:b≤4):(l8 e t b).length≤3000∧∀p∈l8 e t b, -1≤p.2∧p.2≤3000:=by
 have T:=k8_ d e t b 0 h ht hb (by decide)
 have h1:=f9_ d e h
 have q1:=ke_ d e h hm t
 have q2:=ke_ d (bare e) h1.1 (by omega) b
 refine⟨by rw[T.len,qu_];exact q2,fun p hp=>?_⟩
 have:=T.lt p hp
 rw[qu_]at this
 omega
def l8c (e:E):Wd:=
 if e.kind=1 then [(Go.Lib.decDigits e.n.toNat,0)]
 else if e.kind=2 then [(e.s,0)]
 else l8 (e.kids.getD 0 E0) (max 2 (ak_ e.s)) (max 2 (ak_ e.s))++(e.s,((wds (e.kids.getD 0 E0) (max 2 (ak_ e.s))).length:Int))::shf ((wds (e.kids.getD 0 E0) (max 2 (ak_ e.s))).length+1) (l8 (e.kids.getD 1 E0) (ak_ e.s+1) (ak_ e.s+1))
theorem ayh_ {e:E} (hk:e.kind=1∨e.kind=2∨e.kind=3∧e.kids.length=2) (t b:Int):l8 e t b=brk (decide (e.kind=3∧ak_ e.s<b)) (shf (if e.kind=3∧ak_ e.s<t then 1 else 0) (l8c e)):=by
 rcases hk with hk|hk|⟨hk,hl⟩
 ·rw[ara_ hk];simp[l8c,hk,qo_,brk]
 ·rw[alr_ hk];simp[l8c,hk,qo_,brk]
 rw[aua_ hk hl];simp[l8c,hk]
def l8L (s:Sl):Wd:=
 if s.kind=1 then(s.name,1)::(wEq,4)::shf 5 (l8 s.expr 1 1)
 else if s.kind=2 then(bj_,0)::shf 1 (l8 s.expr 1 1)
 else if s.kind=3 then((wIf,0)::shf 1 (l8 s.expr 1 1)++[(bz_, -1),(bj_,((wds s.expr 1).length:Int)+1)])++shf ((wds s.expr 1).length+2) (l8 s.thn 1 1)
 else []
def lz_ (s:Sl):List Int:=(l8L s).map fun c=>if c.2<0 then -1 else(b3_ 0 (sw' s)).getD c.2.toNat 0
end
section
theorem aom_ {l:Wd} {k:Nat} (h:k<l.length):ic_ (l.take (k+1))=ic_ (l.take k)+((l.getD k ([],0)).1.length+1):=by
 have e:l.take (k+1)=l.take k++[l.getD k ([],0)]:=by
  rw[List.take_add_one,List.getElem?_eq_getElem h,List.getD_eq_getElem?_getD,List.getElem?_eq_getElem h];rfl
 rw[e,qa_,xr_,qk_];omega
theorem aqx_ (l:Wd) (k:Nat):ic_ (l.take k)≤ic_ l:=by
 conv=>rhs;rw[←List.take_append_drop k l]
 have:=ua_ (l.drop k)
 rw[qa_];omega
theorem art_ {l:Wd} {k:Nat} (h:k<l.length):(b3_ 0 (l.map (·.1))).getD k 0=ic_ (l.take k):=by
 rw[rx_ _ _ (by simpa using h),ic_,List.map_take];omega
attribute [local go_sem] ci_ dp_ al_ gm_ in
theorem anp_ (l:Wd) (hl:l.length≤1000000) (hw:ic_ l<1099511627776):ACall En 133 [.sl false (wdR l)] [] [.sl false (inR (b3_ 0 (l.map (·.1))))] []:=by
 have hp:∀k,bg_ (fi_ (inR (b3_ 0 (l.map (·.1)))) [.i .i64 0] k)=true:=fun k=>iq_ (al_ _) rfl
 have hll:(inR (b3_ 0 (l.map (·.1)))).length=l.length:=by rw[a2_,cn_,List.length_map]
 have hd1:∀k j,((fi_ (inR (b3_ 0 (l.map (·.1)))) [.i .i64 0] k).getD j []).drop 1=[]:=agc_ _ _ (fun r hr=>alc_ hr) rfl
 refine aa_ [] Tryz.func133 Tryz.ntmps133 fun C=>?_
 refine .seq (.rgo [] ?_ ?_ (h:=by simp only[go_sem,seval,hp,hd1,hll];rfl))
 ·(first|trivial)
 refine .seq (.rgo [] ?_ ?_ (h:=by simp only[go_sem,seval,hp,hd1,hll];rfl))
 ·simp;omega
 refine .seq (.rgo [] ?_ ?_ (h:=by simp only[go_sem,seval,hp,hd1,hll];rfl))
 ·(first|trivial)
 refine .seq (.seq (.rgo [] ?_ ?_ (h:=by simp only[go_sem,seval,hp,hd1,hll];rfl)))
 ·(first|trivial)
 refine .block (.loopK (fun k:Nat=>⟨[.no,.no,.no,.ow 19 1 0 l.length,.i .i64 (ic_ (l.take k)),.no,.no,.no,.no,.no,.sl false (wdR l),.i .i64 l.length,.i .i64 k,.no,.no,.no,.no,.no,.no,.no,.no,.no,.no,.no,.no,.no,.no,.no,.no],ae_ [(19,⟨3,1,fi_ (inR (b3_ 0 (l.map (·.1)))) [.i .i64 0] k⟩)],us [19]⟩) (fun k:Nat=>k≤l.length) (fun k:Nat=>l.length - k) (0) ?_ ?_ (fun k hI=>?_))
 ·simp
 ·exact Can.wl (h:=by simp only[go_sem,seval,hp,hd1,hll,av_,leV,as_,au_,V.inn,us,true_or,or_true]<;>(simp[qk_])) (hi:=by simp only[go_sem,seval,hp,hd1,hll,av_,leV,as_,au_,V.inn,us,true_or,or_true]) (hL:=by simp only[go_sem,seval,hp,hd1,hll,av_,leV,as_,au_,V.inn,us,true_or,or_true]<;>(simp[it_,hll]))
 refine .seq (.rgo [] ?_ ?_ (h:=by simp only[go_sem,seval,hp,hd1,hll];rfl))
 ·(first|trivial)
 refine .seq (.cB (fun h13=>?_) (fun h13=>?_) (hc:=by simp only[go_sem,seval,hp,hd1,hll];rfl) (hp:=by simp only[go_sem,seval,hp,hd1,hll]))
 ·refine .skip (.seq (.block (.seq (.rgo [] ?_ ?_ (h:=by simp only[go_sem,seval,hp,hd1,hll,jy_ (show k<l.length by simpa using h13)];rfl)))))
  ·simp only[decide_eq_true_eq]at h13;simp;omega
  refine .seq (.rgo [] ?_ ?_ (h:=by simp only[go_sem,seval,hp,hd1,hll];rfl))
  ·simp only[decide_eq_true_eq]at h13;simp;omega
  refine .rgo [] ?_ ?_ (h:=by simp only[go_sem,seval,hp,hd1,hll];rfl)
  ·(first|trivial)
  refine .rgo [] ?_ ?_ (h:=by simp only[go_sem,seval,hp,hd1,hll];rfl)
  ·(first|trivial)
  refine⟨k+1,?_,?_,?_⟩
  ·simp at h13;omega
  ·simp at h13;omega
  exact Can.wl (h:=by simp only[go_sem,seval,hp,hd1,hll,av_,leV,as_,au_,V.inn,us,true_or,or_true]<;>((have q:=aom_ (show k<l.length by simpa using h13));(have q2:=aqx_ l (k+1));(have q3:=ua_ (l.take k));(refine⟨?_,?_⟩;(rw[ac_ (show -9223372036854775808≤(((l.getD k ([],0)).1.length:Int)+1) by omega) (by omega),ac_ (by omega) (by omega),q]);(rw[ac_ (by simp at h13;omega) (by simp at h13;omega)];simp)))) (hi:=by simp only[go_sem,seval,hp,hd1,hll,av_,leV,as_,au_,V.inn,us,true_or,or_true]) (hL:=by simp only[go_sem,seval,hp,hd1,hll,av_,leV,as_,au_,V.inn,us,true_or,or_true]<;>((rw[←jf_ (by rw[hll];simpa using h13),c1_ (by rw[cn_,List.length_map];simpa using h13),art_ (by simpa using h13)])))
 refine .exit (.seq (.rgo [] ?_ ?_ (h:=by simp only[go_sem,seval,hp,hd1,hll];rfl)))
 ·(first|trivial)
 refine .frz 19 (by simp only[go_sem,seval,hp,hd1,hll];rfl) (by simp only[go_sem,seval,hp,hd1,hll]) (by simp only[go_sem,seval,hp,hd1,hll];rfl) (by simp only[go_sem,seval,hp,hd1,hll];rfl) ?_
 refine .ret ⟨.inr rfl,?_⟩
 exact Out.pl (by simp only[Tryz.results133];rfl) (by simp only[ba_,go_sem,seval,hp,hd1,hll]<;>(simp at h13;rw[kj_ (by omega)];simp[←hll,List.take_of_length_le,peel])) (h1:=by simp only[a1_,bn_,go_sem,seval,hp,hd1,hll]<;>(split<;>rfl)) (h3:=by simp only[go_sem,seval,hp,hd1,hll])
theorem as3_ {l:Wd} {k:Nat} (h:k<l.length) (n:Int):shf n (l.take (k+1))=shf n (l.take k)++[((l.getD k ([],0)).1,if 0≤(l.getD k ([],0)).2 then(l.getD k ([],0)).2+n else(l.getD k ([],0)).2)]:=by
 have e:l.take (k+1)=l.take k++[l.getD k ([],0)]:=by
  rw[List.take_add_one,List.getElem?_eq_getElem h,List.getD_eq_getElem?_getD,List.getElem?_eq_getElem h];rfl
 rw[e,ax5_];congr 1
 simp only[shf,List.map_cons,List.map_nil]
 split<;>rfl
attribute [local go_sem] ci_ dp_ ih_ in
theorem kp_ (l:Wd) (n:Int) (hl:l.length≤1000000) (hb:∀p∈l,p.2≤1000000) (h0:0≤n) (h1:n≤1000000):ACall En 176 [.sl false (wdR l),.i .i64 n] [] [.sl false (wdR (shf n l))] []:=by
 refine aa_ [] Tryz.func176 Tryz.ntmps176 fun C=>?_
 refine .seq (.rg [] ?_)
 refine .seq (.rg [] ?_)
 refine .seq (.seq (.rg [] ?_))
 refine .block (.loopK (fun k:Nat=>⟨[.sl false (wdR l),.i .i64 n,.no,.no,.no,.ow 60 2 0 k,.i .i64 k,.no,.no,.no,.no,.no,.no,.no,.no,.no,.no,.no,.no,.no,.no,.no,.no,.no,.no,.no,.no,.no,.no,.no,.no,.no],ae_ [(60,⟨133,2,wdR (shf n (l.take k))⟩)],us [60]⟩) (fun k:Nat=>k≤l.length) (fun k:Nat=>l.length - k) (0) ?_ ?_ (fun k hI=>?_))
 ·simp
 ·refine Can.trans (Can.ownSlot 5 60 133 2 (by simp only[go_sem,seval]<;>rfl) (by simp only[go_sem,seval]) (by simp only[go_sem,seval]<;>rfl)) ?_
  refine Can.wk ?_ ?_
  ·trivial
  simp[shf,wdR]
 refine .seq (.seq (.rg [] ?_))
 refine .cB (fun h12=>?_) fun h12=>?_
 ·refine .skip (.seq (.block (.seq (.rgo [] ?_ ?_ (h:=by simp only[go_sem,seval,jy_ (show k<l.length by simpa using h12)];rfl)))))
  ·((simp at h12;simp;omega))
  refine .seqJ (fun v:Int=>⟨[.sl false (wdR l),.i .i64 n,.no,.no,.no,.ow 60 2 0 k,.i .i64 k,.pt 17 2 0 0,.no,.no,.no,.no,.no,.no,.no,.no,.no,.no,.no,.no,.no,.no,.no,.no,.no,.no,.no,.no,.no,.no,.no,.no],ae_ [(60,⟨133,2,wdR (shf n (l.take k))⟩),(17,⟨133,2,[[.s (l.getD k ([],0)).1,.i .i64 v]]⟩)],us [17,60]⟩) (fun v:Int=>v=if 0≤(l.getD k ([],0)).2 then(l.getD k ([],0)).2+n else(l.getD k ([],0)).2) ?_ (fun v hJ=>?_)
  ·refine .seq (.rg [] ?_)
   refine .cB (fun h21=>?_) fun h21=>?_
   ·refine .rg [] ?_
    refine Exists.intro ((l.getD k ([],0)).2+n) ⟨?_,?_⟩
    ·(simp only[decide_eq_true_eq,decide_eq_false_iff_not]at h21;first|rw[if_pos (by omega)]|rw[if_neg (by omega)])
    refine Can.wm ?_;(simp only[decide_eq_true_eq,decide_eq_false_iff_not]at h21;have:=hb _ (ag_ (d:=([],0)) (show k<l.length by simpa using h12));first|rfl|(rw[ac_ (by omega) (by omega)];done)|(simp;done)|trace_state)
   refine .skip ?_
   refine Exists.intro ((l.getD k ([],0)).2) ⟨?_,?_⟩
   ·(simp only[decide_eq_true_eq,decide_eq_false_iff_not]at h21;first|rw[if_pos (by omega)]|rw[if_neg (by omega)])
   refine Can.wm ?_;trivial
  refine .rgo [] ?_ ?_
  ·simp at h12;simp[b0_,c7_];omega
  refine .rg [] ?_
  refine⟨k+1,?_,?_,?_⟩
  ·simp at h12;omega
  ·simp at h12;omega
  refine Can.trans (Can.sX 40 60) ?_
  refine Can.wk ?_ ?_
  ·rw[ac_ (by simp at h12;omega) (by simp at h12;omega)];simp
  rw[as3_ (by simpa using h12),acu_,←hJ];rfl
 refine .exit (.seq (.rg [] ?_))
 refine .fX 60 ?_
 refine .ret ⟨.inr rfl,Out.pP Tryz.results176 ?_⟩;simp at h12;(obtain rfl:k=l.length:=(by omega));rw[List.take_of_length_le (Nat.le_refl _)];simp[List.take_of_length_le,ih_,ci_,peel]
attribute [local go_sem] af_ ah_ al_ in
theorem ap8_ (l:List Str) (hl:l.length≤1000000) (hw:wid l<1099511627776):ACall En 110 [.sl false (ai_ l)] [] [.sl false (inR (b3_ 0 l))] []:=by
 refine aa_ [] Tryz.func110 Tryz.ntmps110 fun C=>?_
 refine .seq (.rg [] ?_)
 refine .seq (.rg [] ?_)
 refine .seq (.rg [] ?_)
 refine .seq (.seq (.rg [] ?_))
 refine .block (.loopK (fun k:Nat=>⟨[.sl false (ai_ l),.no,.no,.ow 60 1 0 k,.i .i64 (wid (l.take k)),.i .i64 k,.no,.no,.no,.no,.no,.no,.no,.no,.no,.no,.no,.no,.no,.no,.no,.no,.no,.no,.no,.no],ae_ [(60,⟨3,1,inR ((b3_ 0 l).take k)⟩)],us [60]⟩) (fun k:Nat=>k≤l.length) (fun k:Nat=>l.length - k) (0) ?_ ?_ (fun k hI=>?_))
 ·simp
 ·refine Can.trans (Can.ownSlot 3 60 3 1 (by simp only[go_sem,seval]<;>rfl) (by simp only[go_sem,seval]) (by simp only[go_sem,seval]<;>rfl)) ?_
  refine Can.wk ?_ ?_
  ·simp[ach_]
  simp[inR]
 refine .seq (.seq (.rg [] ?_))
 refine .cB (fun h10=>?_) fun h10=>?_
 ·refine .skip (.seq (.block (.seq (.rgo [] ?_ ?_))))
  ·simp at h10;simp[ae7_,c7_,a2_,cn_];omega
  refine .rgo [] ?_ ?_ (h:=by simp only[go_sem,seval,an_ (show k<l.length by simpa using h10)];rfl)
  ·((simp at h10;simp;omega))
  refine .rg [] ?_
  refine⟨k+1,?_,?_,?_⟩
  ·simp at h10;omega
  ·simp at h10;omega
  refine Can.trans (Can.sX 26 60) ?_
  refine Can.wk ?_ ?_
  ·(have q:=aqo_ (show k<l.length by simpa using h10));(have q2:=ay5_ l (k+1));(repeat' apply And.intro)<;>first|(simp;done)|(rw[ac_ (by simp at h10;omega) (by simp at h10;omega)];simp;done)|(rw[ac_ (show -9223372036854775808≤((wid (l.take k):Int)+((l.getD k []).length:Int)) by omega) (by omega),ac_ (by omega) (by omega)];omega)|trace_state
  (rw[List.take_add_one,List.getElem?_eq_getElem (show k<(b3_ 0 l).length by rw[cn_];simpa using h10),tx_];(have:=rx_ l 0 (show k<l.length by simpa using h10));rw[List.getD_eq_getElem?_getD,List.getElem?_eq_getElem (show k<(b3_ 0 l).length by rw[cn_];simpa using h10),Option.getD_some]at this;rw[this];simp[inR])
 refine .exit (.seq (.rg [] ?_))
 refine .fX 60 ?_
 refine .ret ⟨.inr rfl,Out.pP Tryz.results110 ?_⟩;simp at h10;(obtain rfl:k=l.length:=(by omega));rw[List.take_of_length_le (by rw[cn_];exact Nat.le_refl _)];simp[List.take_of_length_le,a2_,cn_,peel]
end
end Go.Proofs.YthjccajoadjicaaGreatDoor
