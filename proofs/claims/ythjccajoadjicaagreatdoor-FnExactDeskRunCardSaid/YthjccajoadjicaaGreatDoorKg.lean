/- The reference's words and texts, 2. Conditions: none. -/
import Derived.Test.YthjccajoadjicaaGreatDoorKf
import Derived.Test.YthjccajoadjicaaGreatDoorKe
set_option linter.unusedVariables false
set_option linter.unusedSimpArgs false
namespace Go.Proofs.YthjccajoadjicaaGreatDoor
section
set_option maxRecDepth 100000
set_option maxHeartbeats 1000000
theorem b6_ (a b:List Str):an_ (a++b)=an_ a++an_ b:=by simp[an_]
theorem ai_ (l:List Str):(∀r,r∈an_ l→r.length=1)=True:=eq_true fun r hr=>vm_ hr
theorem hn_ (l:List Str):an_ l=[]↔l=[]:=by cases l<;>simp[an_]
theorem abj_ {e:E} {d:Int} (h:form e d=true) (must:Int):wds e must=if e.kind=3∧ap_ e.s<must then [40]::(wds e 0++[[41]])else wds e 0:=by
 have:=ah1_ h must 0
 unfold wds
 rw[this,tg_]
 by_cases h1:e.kind=3<;>by_cases h2:ap_ e.s<must<;>simp[h1,h2]
theorem tx_ {e:E} {d:Nat} (h:form e d=true) (hm:many e d≤1000) (must:Int):(wds e must).length≤3000:=by
 have:=cv_ d e must h;omega
theorem abv_ {e:E} {d:Int} (h:form e d=true) (must:Int) (hm:must≤4):(lvl e<must)=(e.kind=3∧ap_ e.s<must):=by
 rcases (ar_ h).2 with⟨k1,_⟩|⟨k1,_⟩|⟨k1,h1,h2,h3,h4,h5⟩|⟨k1,_⟩
 ·simp[lvl,k1];omega
 ·simp[lvl,k1];omega
 ·rw[wb_ k1 h2];simp[k1]
 ·simp[lvl,k1];omega
attribute [local go_sem] al_ aq_ T2_ T1_ in
theorem ho_ (d:Nat):∀(e:E) (t:Int),form e d=true→sm e=true→many e d≤1000→t≤4→ -1000≤t→ACall En 105 [.ag (eC e),.i .i64 t] [] [.sl false (an_ (wds e t))] []:=by
 induction d with
 |zero=>intro e t h;have:=(ar_ h).1;omega
 |succ d ih=>
 intro e t h hs hm ht ht2
 obtain⟨a1,a2,a3⟩:=fy_ hs
 have e1:((d+1:Nat):Int) - 1=(d:Int):=by omega
 have hd1:(1:Int)≤((d+1:Nat):Int):=by omega
 have g1:e.kind=1→0≤e.n∧e.n≤1000000:=fun hk=>by
  rcases (ar_ h).2 with⟨k1,h1,h2,h3,h4⟩|⟨k1,h1,h2,h3⟩|⟨k1,_⟩|⟨k1,_⟩<;>omega
 have g3:e.kind=3→e.kids.length=2∧1≤ap_ e.s∧ap_ e.s≤3∧form (e.kids.getD 0 E0) d=true∧form (e.kids.getD 1 E0) d=true∧many (e.kids.getD 0 E0) d≤1000∧many (e.kids.getD 1 E0) d≤1000∧lvl e=ap_ e.s:=fun hk=>by
  rcases (ar_ h).2 with⟨k1,_⟩|⟨k1,_⟩|⟨k1,h1,h2,h3,h4,h5⟩|⟨k1,_⟩<;>try omega
  rw[e1]at h4 h5
  have:=by_ h2
  have hm2:=j4_ hd1 h3
  rw[e1]at hm2
  have q1:=cv_ d _ 0 h4
  have q2:=cv_ d _ 0 h5
  exact⟨h3,this.1,this.2,h4,h5,by omega,by omega,wb_ k1 h2⟩
 have g4:e.kind=4→e.kids.length=1∧form (e.kids.getD 0 E0) d=true∧many (e.kids.getD 0 E0) d≤1000:=fun hk=>by
  rcases (ar_ h).2 with⟨k1,_⟩|⟨k1,_⟩|⟨k1,_⟩|⟨k1,h1,h2,h3,h4⟩<;>try omega
  rw[e1]at h4
  have hm2:=lp_ hd1 h3
  rw[e1]at hm2
  have q1:=cv_ d _ 0 h4
  exact⟨h3,h4,by omega⟩
 have g0:e.kind=1∨e.kind=2∨e.kind=3∨e.kind=4:=by
  rcases (ar_ h).2 with⟨k1,_⟩|⟨k1,_⟩|⟨k1,_⟩|⟨k1,_⟩<;>omega
 have hT:e.kind=3→wds e 0=wds (e.kids.getD 0 E0) (if lvl e=1 then 2 else lvl e)++[e.s]++wds (e.kids.getD 1 E0) (lvl e+1):=fun hk=>by
  have q:=g3 hk
  rw[d7_ hk q.1,if_neg (by omega),q.2.2.2.2.2.2.2,show max 2 (ap_ e.s)=if ap_ e.s=1 then 2 else ap_ e.s by split<;>omega]
 have hL:∀k,k<e.kids.length→∀m,(wds (e.kids.getD k E0) m).length≤3000:=fun k hk m=>by
  rcases g0 with hk4|hk4|hk4|hk4
  ·rcases (ar_ h).2 with⟨k1,h1,h2,h3,h4⟩|⟨k1,_⟩|⟨k1,_⟩|⟨k1,_⟩<;>try omega
   rw[h4]at hk;simp at hk
  ·rcases (ar_ h).2 with⟨k1,_⟩|⟨k1,h1,h2,h3⟩|⟨k1,_⟩|⟨k1,_⟩<;>try omega
   rw[h3]at hk;simp at hk
  ·have:=g3 hk4
   have hk2:k=0∨k=1:=by omega
   rcases hk2 with rfl|rfl
   ·exact tx_ this.2.2.2.1 this.2.2.2.2.2.1 _
   ·exact tx_ this.2.2.2.2.1 this.2.2.2.2.2.2.1 _
  ·have:=g4 hk4
   have hk2:k=0:=by omega
   subst hk2
   exact tx_ this.2.1 this.2.2 _
 have hW:=tx_ h hm
 have hA:e.kind=4→wds e 0=wds (e.kids.getD 0 E0) 4++[[97,115],e.s]:=fun hk=>iz_ hk (g4 hk).1 0
 refine aa_ [] Tryz.func105 Tryz.ntmps105 fun C=>?_
 refine .seq (.rgo [] ?_ ?_)
 ·(first|trivial|(simp;done)|(simp[ai_];done))
 refine .seq (.rgo [] ?_ ?_)
 ·(first|trivial|(simp;done)|(simp[ai_];done))
 refine .seq (.rgo [ab_ (rb_ e)] ?_ ?_)
 ·(first|trivial|(simp;done)|(simp[ai_];done))
 refine .seqJ (fun u:Unit=>⟨[.no,.i .i64 t,.no,.no,.no,.ow 150 1 0 (wds e 0).length,.i .i64 (lvl e),.no,.no,.no,.no,.no,.no,.no,.no,.no,.no,.no,.no,.no,.no,.no,.no,.no,.no,.no,.no,.no,.no,.no,.no,.no,.no,.no,.no,.no,.no,.no,.no,.no,.no,.no,.no,.no,.no,.no,.no,.no,.no,.no,.no,.no,.no,.no,.no,.no,.no,.no,.no,.no,.no,.no,.no,.no,.no,.no,.no,.no,.no,.no,.no,.no,.no],ak_ [(150,⟨9,1,an_ (wds e 0)⟩)],us [150]⟩) (fun u:Unit=>True) ?_ (fun u hJ=>?_)
 ·refine .seq (.rgo [] ?_ ?_)
  ·(first|trivial|(simp;done)|(simp[ai_];done))
  refine .block (.seq (.rgo [] ?_ ?_))
  ·(first|trivial|(simp;done)|(simp[ai_];done))
  refine .cB (fun h24=>?_) (fun h24=>?_)
  ·refine .rgo [ab_ (kp_ e.n (by have:=g1 (by simpa using h24);omega) (by have:=g1 (by simpa using h24);omega))] ?_ ?_
   ·(first|trivial|(simp;done)|(simp[ai_];done))
   refine Exists.intro (()) ⟨?_,?_⟩
   ·trivial
   refine Can.trans (Can.sX 41 150) ?_
   refine Can.wk ?_ ?_
   ·first|trivial|(first|(rw[dp_ (by simpa using h24)];rfl)|(rw[cs_ (by simpa using h32)];rfl)|(rw[hT (by simpa using h39),←hJ];simp;omega)|(rw[hA (by simp_all)];simp))
   ·first|trivial|(first|(rw[dp_ (by simpa using h24),fn_ (by have:=g1 (by simpa using h24);omega)];rfl)|(rw[cs_ (by simpa using h32)];rfl)|(rw[hT (by simpa using h39),←hJ];simp[an_,be_];done)|(rw[hA (by simp_all)];simp[an_]))
  ·refine .seq (.rgo [] ?_ ?_)
   ·(first|trivial|(simp;done)|(simp[ai_];done))
   refine .cB (fun h32=>?_) (fun h32=>?_)
   ·refine .rgo [] ?_ ?_
    ·(first|trivial|(simp;done)|(simp[ai_];done))
    refine Exists.intro (()) ⟨?_,?_⟩
    ·trivial
    refine Can.trans (Can.sX 48 150) ?_
    refine Can.wk ?_ ?_
    ·first|trivial|(first|(rw[dp_ (by simpa using h24)];rfl)|(rw[cs_ (by simpa using h32)];rfl)|(rw[hT (by simpa using h39),←hJ];simp;omega)|(rw[hA (by simp_all)];simp))
    ·first|trivial|(first|(rw[dp_ (by simpa using h24),fn_ (by have:=g1 (by simpa using h24);omega)];rfl)|(rw[cs_ (by simpa using h32)];rfl)|(rw[hT (by simpa using h39),←hJ];simp[an_,be_];done)|(rw[hA (by simp_all)];simp[an_]))
   ·refine .seq (.rgo [] ?_ ?_)
    ·(first|trivial|(simp;done)|(simp[ai_];done))
    refine .cB (fun h39=>?_) (fun h39=>?_)
    ·refine .seq (.rgo [] ?_ ?_)
     ·(first|trivial|(simp;done)|(simp[ai_];done))
     refine .seqJ (fun lf:Int=>⟨[.no,.i .i64 t,.pt 12 4 0 0,.no,.no,.sl true [],.i .i64 (lvl e),.i .i64 lf,.no,.no,.no,.no,.no,.no,.no,.no,.no,.no,.no,.no,.no,.no,.no,.no,.no,.no,.no,.no,.no,.no,.no,.no,.no,.no,.no,.no,.no,.no,.no,.no,.no,.no,.no,.no,.no,.no,.no,.no,.no,.no,.no,.no,.no,.no,.no,.no,.no,.no,.no,.no,.no,.no,.no,.no,.no,.no,.no,.no,.no,.no,.no,.no,.no],ak_ [(12,⟨56,4,[eC e]⟩)],us [12]⟩) (fun lf:Int=>lf=if lvl e=1 then 2 else lvl e) ?_ (fun lf hJ=>?_)
     ·refine .seq (.rgo [] ?_ ?_)
      ·(first|trivial|(simp;done)|(simp[ai_];done))
      refine .cB (fun h43=>?_) (fun h43=>?_)
      ·refine .rgo [] ?_ ?_
       ·(first|trivial|(simp;done)|(simp[ai_];done))
       refine Exists.intro (2) ⟨?_,?_⟩
       ·simp_all
       refine Can.wh ?_;first|trivial|(simp_all)
      ·refine .skip ?_
       refine Exists.intro (lvl e) ⟨?_,?_⟩
       ·simp_all
       refine Can.wh ?_;first|trivial|(simp_all)
     refine .rgDo [ab_ (ih (e.kids.getD 0 E0) lf (g3 (by simpa using h39)).2.2.2.1 (ck_ a3 _ (am_ (by have:=g3 (by simpa using h39);omega))) (g3 (by simpa using h39)).2.2.2.2.2.1 (by have:=g3 (by simpa using h39);rw[hJ];split<;>omega) (by have:=g3 (by simpa using h39);rw[hJ];split<;>omega)),ab_ (ih (e.kids.getD 1 E0) (lvl e+1) (g3 (by simpa using h39)).2.2.2.2.1 (ck_ a3 _ (am_ (by have:=g3 (by simpa using h39);omega))) (g3 (by simpa using h39)).2.2.2.2.2.2.1 (by have:=g3 (by simpa using h39);omega) (by have:=g3 (by simpa using h39);omega))] ?_ ?_ (h:=by simp only[go_sem,seval,b7_ (show 0<e.kids.length by have:=g3 (by simpa using h39);omega),b7_ (show 1<e.kids.length by have:=g3 (by simpa using h39);omega),aj_ (show -9223372036854775808≤lvl e+1 by have:=g3 (by simpa using h39);omega) (by have:=g3 (by simpa using h39);omega)];rfl)
     ·have q:=g3 (by simpa using h39);have q1:=hL 0 (by omega) lf;have q2:1<e.kids.length:=(by omega);have q3:=hL 1 (by omega) (lvl e+1);simp[-List.getD_eq_getElem?_getD,a7_,q2,ai_];omega
     refine Exists.intro (()) ⟨?_,?_⟩
     ·trivial
     refine Can.trans (Can.sX 73 150) ?_
     refine Can.wk ?_ ?_
     ·first|trivial|(first|(rw[dp_ (by simpa using h24)];rfl)|(rw[cs_ (by simpa using h32)];rfl)|(rw[hT (by simpa using h39),←hJ];simp;omega)|(rw[hA (by simp_all)];simp))
     ·first|trivial|(first|(rw[dp_ (by simpa using h24),fn_ (by have:=g1 (by simpa using h24);omega)];rfl)|(rw[cs_ (by simpa using h32)];rfl)|(rw[hT (by simpa using h39),←hJ];simp[an_,be_];done)|(rw[hA (by simp_all)];simp[an_]))
    ·refine .rgDo [ab_ (ih (e.kids.getD 0 E0) 4 (g4 (by simp_all)).2.1 (ck_ a3 _ (am_ (by have:=g4 (by simp_all);omega))) (g4 (by simp_all)).2.2 (by decide) (by decide))] ?_ ?_ (h:=by simp only[go_sem,seval,b7_ (show 0<e.kids.length by have:=g4 (by simp_all);omega)];rfl)
     ·have q:=g4 (by simp_all);have q1:=hL 0 (by omega) 4;have q2:0<e.kids.length:=(by omega);simp[-List.getD_eq_getElem?_getD,a7_,q2,ai_];omega
     refine Exists.intro (()) ⟨?_,?_⟩
     ·trivial
     refine Can.trans (Can.sX 33 150) ?_
     refine Can.wk ?_ ?_
     ·first|trivial|(first|(rw[dp_ (by simpa using h24)];rfl)|(rw[cs_ (by simpa using h32)];rfl)|(rw[hT (by simpa using h39),←hJ];simp;omega)|(rw[hA (by simp_all)];simp))
     ·first|trivial|(first|(rw[dp_ (by simpa using h24),fn_ (by have:=g1 (by simpa using h24);omega)];rfl)|(rw[cs_ (by simpa using h32)];rfl)|(rw[hT (by simpa using h39),←hJ];simp[an_,be_];done)|(rw[hA (by simp_all)];simp[an_]))
 refine .seq (.seq (.rgo [] ?_ ?_))
 ·(first|trivial|(simp;done)|(simp[ai_];done))
 refine .cB (fun h66=>?_) (fun h66=>?_)
 ·refine .seq (.rgo [] ?_ ?_)
  ·have q:=hW 0;simp[-List.getD_eq_getElem?_getD,a7_,ai_,hn_];(first|omega|(refine⟨⟨?_,by omega⟩,by omega,by omega⟩;intro e0;have:=(cv_ (d+1) e 0 h).1;rw[e0]at this;simp at this))
  refine .fX 81 ?_
  refine .ret ⟨.inr rfl,?_⟩
  exact Out.pl (by simp only[Tryz.results105];rfl) (by simp only[ag_,go_sem,seval]<;>(have q:e.kind=3∧ap_ e.s<t:=(by rw[←abv_ h t ht];simpa using h66);rw[abj_ h t,if_pos q];(first|(rw[if_pos (by omega),T1_ (by simp[an_];omega)];simp[an_,peel]))))
 ·refine .skip (.seq (.rgo [] ?_ ?_))
  ·(first|trivial|(simp;done)|(simp[ai_];done))
  refine .fX 150 ?_
  refine .ret ⟨.inr rfl,?_⟩
  exact Out.pl (by simp only[Tryz.results105];rfl) (by simp only[ag_,go_sem,seval]<;>(have q:¬(e.kind=3∧ap_ e.s<t):=(by rw[←abv_ h t ht];simpa using h66);rw[abj_ h t,if_neg q]))
end
section
set_option maxRecDepth 100000
set_option maxHeartbeats 1000000
theorem rg_ {e:E} (h:eok e=true) (must:Int):wds e must≠[]:=fun e0=>by have:=(bk_ h must).1;rw[e0]at this;simp at this
attribute [local go_sem] al_ aq_ T2_ T1_ cz_ in
theorem q1_ (b:Bl) (h:c0_ b=true) (hs:smb b=true):ACall En 187 [.ag (bC b)] [] [.sl false (an_ (bw b))] []:=by
 obtain⟨h0,h1,h2⟩:=re_ h
 obtain⟨s1,s2,s3⟩:=pb_ hs
 have W:b.kind=1∨b.kind=2∨b.kind=3→_:=fun hk=>ho_ 5 b.expr 1 (ay_ (h1 hk)) s2 (h7_ (h1 hk)) (by decide) (by decide)
 have W3:b.kind=3→_:=fun hk=>ho_ 5 b.thn 1 (ay_ (h2 hk)) s3 (h7_ (h2 hk)) (by decide) (by decide)
 refine aa_ [] Tryz.func187 Tryz.ntmps187 fun C=>?_
 refine .seq (.rgo [] ?_ ?_)
 ·(first|trivial|(simp;done)|(simp[ai_];done))
 refine .seq (.seq (.rgo [] ?_ ?_))
 ·(first|trivial|(simp;done)|(simp[ai_];done))
 refine .block (.seq (.rgo [] ?_ ?_))
 ·(first|trivial|(simp;done)|(simp[ai_];done))
 refine .cB (fun h6=>?_) (fun h6=>?_)
 ·refine .seq (.rgDo [ab_ (W (.inl (by simpa using h6)))] ?_ ?_)
  ·have q:=h1 (.inl (by simpa using h6));have q2:=(bk_ q 1);have q3:=rg_ q 1;simp[a7_,ai_,q3,hn_];omega
  refine .fX 24 ?_
  refine .ret ⟨.inr rfl,?_⟩
  exact Out.pl (by simp only[Tryz.results187];rfl) (by simp only[ag_,go_sem,seval]<;>(have k:b.kind=1:=(by simpa using h6);rw[if_pos (by omega),T1_ (by simp[al_];omega)];simp[bw,k,an_,peel,wEq]))
 ·refine .seq (.rgo [] ?_ ?_)
  ·(first|trivial|(simp;done)|(simp[ai_];done))
  refine .cB (fun h15=>?_) (fun h15=>?_)
  ·refine .seq (.rgo [ab_ (W (.inr (.inl (by simpa using h15))))] ?_ ?_)
   ·have q:=h1 (.inr (.inl (by simpa using h15)));have q2:=(bk_ q 1);have q3:=rg_ q 1;simp[a7_,ai_,q3,hn_];omega
   refine .fX 31 ?_
   refine .ret ⟨.inr rfl,?_⟩
   exact Out.pl (by simp only[Tryz.results187];rfl) (by simp only[ag_,go_sem,seval]<;>(have k:b.kind=2:=(by simpa using h15);rw[if_pos (by omega),T1_ (by simp[al_];omega)];simp[bw,k,an_,peel,bi_]))
  ·refine .seq (.rgo [] ?_ ?_)
   ·(first|trivial|(simp;done)|(simp[ai_];done))
   refine .cB (fun h22=>?_) (fun h22=>?_)
   ·refine .seq (.rgo [ab_ (W (.inr (.inr (by simpa using h22))))] ?_ ?_)
    ·have q:=h1 (.inr (.inr (by simpa using h22)));have q2:=(bk_ q 1);have q3:=rg_ q 1;simp[a7_,ai_,q3,hn_];omega
    refine .seq (.rgDo [ab_ (W3 (by simpa using h22))] ?_ ?_)
    ·have q:=h1 (.inr (.inr (by simpa using h22)));have q2:=(bk_ q 1);have q4:=bk_ (h2 (by simpa using h22)) 1;simp[a7_,ai_];omega
    refine .fX 45 ?_
    refine .ret ⟨.inr rfl,?_⟩
    exact Out.pl (by simp only[Tryz.results187];rfl) (by simp only[ag_,go_sem,seval]<;>(have k:b.kind=3:=(by simpa using h22);rw[if_pos (by omega),T1_ (by simp[al_];omega)];simp[bw,k,an_,peel,bi_,wIf,bz_]))
   ·refine .skip (.seq (.rgo [] ?_ ?_))
    ·(first|trivial|(simp;done)|(simp[ai_];done))
    refine .can (Can.slotLe 2 (.sl false []) (by simp only[go_sem,seval]<;>trivial) (by simp only[go_sem,seval]<;>rfl)) ?_
    refine .ret ⟨.inr rfl,?_⟩
    exact Out.pl (by simp only[Tryz.results187];rfl) (by simp only[ag_,go_sem,seval]<;>(have k:b.kind=0:=(by simp_all);simp[bw,k,an_]))
theorem abc_ {l:List Str} {k:Nat} (h:k<l.length):ax_ (l.take (k+1))=(if 0<k then ax_ (l.take k)++[32]else [])++l.getD k []:=by
 have snoc:∀(a:List Str) (s:Str),a≠[]→ax_ (a++[s])=ax_ a++32::s:=fun a s ha=>by
  induction a with
  |nil=>exact absurd rfl ha
  |cons x a ih=>
   cases a with
   |nil=>rw[em_];show ax_ [x,s]=_;rw[d8_,em_]
   |cons y a=>rw[List.cons_append,List.cons_append,d8_,d8_,←List.cons_append,ih (by simp)];simp
 rw[List.take_add_one,T6_ h,T8_,T6_ h]
 simp only[Option.toList_some,Option.getD_some]
 by_cases hk:0<k
 ·rw[snoc _ _ (by intro e;have:=congrArg List.length e;rw[List.length_take]at this;simp only[List.length_nil]at this;omega),if_pos hk];simp
 ·have:k=0:=by omega
  subst this;simp[em_]
theorem ahv_ {l:List Str} (k:Nat):(ax_ (l.take k)).length≤(ax_ l).length:=by
 by_cases h:l.take k=[]
 ·rw[h];simp[f8_]
 ·have h1:=hy_ _ h
  have h2:l≠[]:=fun e=>h (by rw[e];simp)
  have h3:=hy_ _ h2
  have h4:((l.take k).map List.length).sum+(l.take k).length≤(l.map List.length).sum+l.length:=by
   conv=>rhs;rw[←List.take_append_drop k l]
   rw[List.map_append,List.sum_append,T2_];omega
  omega
attribute [local go_sem] al_ aq_ in
theorem ew_ (l:List Str) (hl:l.length<1099511627776) (hb:(ax_ l).length<1099511627776):ACall En 49 [.sl false (an_ l)] [] [.s (ax_ l)] []:=by
 refine aa_ [] Tryz.func49 Tryz.ntmps49 fun C=>?_
 refine .seq (.rg [] ?_)
 refine .seq (.rg [] ?_)
 refine .seq (.seq (.rg [] ?_))
 refine .block (.loopK (fun k:Nat=>⟨[.sl false (an_ l),.no,.no,.s (ax_ (l.take k)),.i .i64 k,.no,.no,.no,.no,.no,.no,.no,.no,.no,.no,.no,.no,.no,.no,.no,.no,.no],ak_ [],us []⟩) (fun k:Nat=>k≤l.length) (fun k:Nat=>l.length - k) (0) ?_ ?_ (fun k hI=>?_))
 ·simp
 ·refine Can.wh ?_;first|trivial|(simp[f8_])
 refine .seq (.seq (.rg [] ?_))
 refine .cB (fun h8=>?_) (fun h8=>?_)
 ·refine .skip (.seq (.block (.seqJ (fun q:Str=>⟨[.sl false (an_ l),.no,.no,.s q,.i .i64 k,.no,.no,.no,.no,.no,.no,.no,.no,.no,.no,.no,.no,.no,.no,.no,.no,.no],ak_ [],us []⟩) (fun q:Str=>q=if 0<k then ax_ (l.take k)++[32]else []) ?_ (fun q hJ=>?_))))
  ·refine .seq (.rg [] ?_)
   refine .cB (fun h12=>?_) (fun h12=>?_)
   ·refine .rgo [] ?_ ?_
    ·have q:=ahv_ (l:=l) k;simp;omega
    refine Exists.intro (ax_ (l.take k)++[32]) ⟨?_,?_⟩
    ·simp at h12;simp[h12]
    refine Can.wh ?_;first|trivial|((simp at h12;subst h12;simp[f8_]))
   ·refine .skip ?_
    refine Exists.intro ([]) ⟨?_,?_⟩
    ·simp at h12;simp[h12]
    refine Can.wh ?_;first|trivial|((simp at h12;subst h12;simp[f8_]))
  refine .rgo [] ?_ ?_ (h:=by simp only[go_sem,seval,aw_ (show k<l.length by simpa using h8)];rfl)
  ·have q1:=ahv_ (l:=l) (k+1);rw[abc_ (by simpa using h8),←hJ,T2_]at q1;refine⟨⟨by omega,by simpa using h8⟩,by omega⟩
  refine .rg [] ?_
  refine Exists.intro (k+1) ⟨?_,?_,?_⟩
  ·simp at h8;omega
  ·simp at h8;omega
  refine Can.wh ?_;first|trivial|(rw[aj_ (by simp at h8;omega) (by simp at h8;omega)];refine⟨?_,by simp⟩;first|(rw[hJ,abc_ (by simpa using h8)];done))
 ·refine .exit (.seq (.rg [] ?_))
  refine .ret ⟨.inr rfl,?_⟩
  exact Out.pl (by simp only[Tryz.results49];rfl) (by simp only[ag_,go_sem,seval]<;>(simp at h8;rw[T1_ h8]))
attribute [local go_sem] cz_ aq_ in
theorem ys_ (b:Bl) (hs:smb b=true):ACall En 186 [.ag (bC b)] [] [.b (bok b)] []:=by
 obtain⟨s1,s2,s3⟩:=pb_ hs
 refine aa_ [] Tryz.func186 Tryz.ntmps186 fun C=>?_
 refine .seq (.rgo [] ?_ ?_)
 ·(first|trivial|(simp;done)|exact hJ.symm|exact⟨hJ.symm,hJ.symm⟩)
 refine .seq (.rgo [] ?_ ?_)
 ·(first|trivial|(simp;done)|exact hJ.symm|exact⟨hJ.symm,hJ.symm⟩)
 refine .seqJ (fun q:Bool=>⟨[.no,.pt 11 10 0 0,.no,.b q,.no,.no,.no,.no,.no,.no,.no,.no,.no,.no,.no,.no,.no,.no,.no,.no,.no,.no,.no,.no,.no,.no,.no,.no,.no,.no,.no,.no,.no,.no,.no,.no,.no,.no,.no,.no,.no,.no,.no,.no,.no,.no,.no,.no,.no,.no,.no,.no,.no,.no,.no,.no,.no,.no,.no,.no,.no,.no,.no,.no,.no,.no,.no,.no,.no,.no,.no,.no,.no,.no],ak_ [(11,⟨147,10,[bC b]⟩)],us [11]⟩) (fun q:Bool=>q=c0_ b) ?_ (fun q hJ=>?_)
 ·refine .seq (.rgo [] ?_ ?_)
  ·(first|trivial|(simp;done)|exact hJ.symm|exact⟨hJ.symm,hJ.symm⟩)
  refine .block (.seq (.rgo [] ?_ ?_))
  ·(first|trivial|(simp;done)|exact hJ.symm|exact⟨hJ.symm,hJ.symm⟩)
  refine .cB (fun h6=>?_) (fun h6=>?_)
  ·refine .rgo [ab_ (h1_ b.expr s2),ab_ (h1_ b.thn s3)] ?_ ?_
   ·(first|trivial|(simp;done)|exact hJ.symm|exact⟨hJ.symm,hJ.symm⟩)
   refine Exists.intro (c0_ b) ⟨?_,?_⟩
   ·rfl
   refine Can.wh ?_;first|trivial|((unfold c0_;simp_all))
  ·refine .seq (.rgo [] ?_ ?_)
   ·(first|trivial|(simp;done)|exact hJ.symm|exact⟨hJ.symm,hJ.symm⟩)
   refine .cB (fun h21=>?_) (fun h21=>?_)
   ·refine .rgo [ab_ (o0_ b.name s1),ab_ (oe_ b.expr s2),ab_ (h1_ b.thn s3)] ?_ ?_
    ·(first|trivial|(simp;done)|exact hJ.symm|exact⟨hJ.symm,hJ.symm⟩)
    refine Exists.intro (c0_ b) ⟨?_,?_⟩
    ·rfl
    refine Can.wh ?_;first|trivial|((unfold c0_;simp_all))
   ·refine .seq (.rgo [] ?_ ?_)
    ·(first|trivial|(simp;done)|exact hJ.symm|exact⟨hJ.symm,hJ.symm⟩)
    refine .cB (fun h36=>?_) (fun h36=>?_)
    ·refine .rgo [ab_ (oe_ b.expr s2),ab_ (h1_ b.thn s3)] ?_ ?_
     ·(first|trivial|(simp;done)|exact hJ.symm|exact⟨hJ.symm,hJ.symm⟩)
     refine Exists.intro (c0_ b) ⟨?_,?_⟩
     ·rfl
     refine Can.wh ?_;first|trivial|((unfold c0_;simp_all))
    ·refine .seq (.rgo [] ?_ ?_)
     ·(first|trivial|(simp;done)|exact hJ.symm|exact⟨hJ.symm,hJ.symm⟩)
     refine .cB (fun h51=>?_) (fun h51=>?_)
     ·refine .rgo [ab_ (oe_ b.expr s2),ab_ (oe_ b.thn s3)] ?_ ?_
      ·(first|trivial|(simp;done)|exact hJ.symm|exact⟨hJ.symm,hJ.symm⟩)
      refine Exists.intro (c0_ b) ⟨?_,?_⟩
      ·rfl
      refine Can.wh ?_;first|trivial|((unfold c0_;simp_all))
     ·refine .skip ?_
      refine Exists.intro (c0_ b) ⟨?_,?_⟩
      ·rfl
      refine Can.wh ?_;first|trivial|((unfold c0_;simp_all))
 cases q
 ·refine .seq (.rgo [a4_ (c0_ b=true) (fun h=>q1_ b h hs),a4_ (c0_ b=true) (fun h=>ew_ (bw b) (by have:=(nh_ h).1;omega) (by have:=ot_ h;omega))] ?_ ?_)
  ·(first|trivial|(simp;done)|exact hJ.symm|exact⟨hJ.symm,hJ.symm⟩)
  refine .ret ⟨.inr rfl,?_⟩
  exact Out.pl (by simp only[Tryz.results186];rfl) (by simp only[ag_,go_sem,seval]<;>(rw[bok,←hJ];first|rfl|(rw[Bool.true_and,dq_];rfl)))
 ·refine .seq (.rgo [a4_ (c0_ b=true) (fun h=>q1_ b h hs),a4_ (c0_ b=true) (fun h=>ew_ (bw b) (by have:=(nh_ h).1;omega) (by have:=ot_ h;omega))] ?_ ?_)
  ·(first|trivial|(simp;done)|exact hJ.symm|exact⟨hJ.symm,hJ.symm⟩)
  refine .ret ⟨.inr rfl,?_⟩
  exact Out.pl (by simp only[Tryz.results186];rfl) (by simp only[ag_,go_sem,seval]<;>(rw[bok,←hJ];first|rfl|(rw[Bool.true_and,dq_];rfl)))
end
section
set_option maxRecDepth 100000
set_option maxHeartbeats 1000000
def lfE (b:Str) (p:Int):E:=if o8_ b p 2=0 then .mk 1 (numI b (p+1) [0,1,2,7,30,1000000]) [] []else .mk 2 0 (ofI b (p+1) [[120],[121],[122],[120]]) []
def dE (b:Str):Nat→Int→E × Int
 |0,p=>(lfE b p,p+2)
 |d+1,p=>
  if d=0 then(lfE b p,p+2)
  else if o8_ b p 4=0 then(lfE b (p+1),p+3)
  else if o8_ b (p+1) 4=0 then(.mk 4 0 (ofI b (p+2) [[105,110,116],[98,111,111,108],[105,110,116]]) [(dE b d (p+3)).1],(dE b d (p+3)).2)
  else(.mk 3 0 (ofI b (p+2) [[43],[45],[42],[60],[43],[42]]) [(dE b d (p+3)).1,(dE b d (dE b d (p+3)).2).1],(dE b d (dE b d (p+3)).2).2)
end
section
structure RS where
 left:List Str
 bad:Bool
 deep:Int
def wAs:Str:=[97,115]
def bn_ (s:RS):Str:=match s.left with|[]=>[]|x::_=>x
def bb_ (s:RS):RS:=match s.left with|[]=>{ s with bad:=true }|_::r=>{ s with left:=r }
def asL:List Str→E→Int→E × RS
 |[],e,d=>(e,⟨[],false,d⟩)
 |[w],e,d=>if w=wAs then(.mk 4 0 [] [e],⟨[],true,d⟩)else(e,⟨[w],false,d⟩)
 |w::t::r,e,d=>if w=wAs then asL r (.mk 4 0 t [e]) d else(e,⟨w::t::r,false,d⟩)
def asR (s:RS) (e:E):E × RS:=if s.bad then(e,s)else asL s.left e s.deep
mutual
def b5_:Nat→Nat→RS→E × RS
 |0,_,s=>(E0,s)
 |n+1,t,s=>if t=4 then fl_ n s else dk_ n t (b5_ n (t+1) s).1 (b5_ n (t+1) s).2
def dk_:Nat→Nat→E→RS→E × RS
 |0,_,e,s=>(e,s)
 |n+1,t,e,s=>if s.bad=false∧s.left≠[]∧ap_ (bn_ s)=t then
   dk_ n t (.mk 3 0 (bn_ s) [e,(b5_ n (t+1) (bb_ s)).1]) (b5_ n (t+1) (bb_ s)).2 else(e,s)
def fl_:Nat→RS→E × RS
 |0,s=>(E0,s)
 |n+1,s=>asR (ef_ n (bn_ s) (bb_ s)).2 (ef_ n (bn_ s) (bb_ s)).1
def ef_:Nat→Str→RS→E × RS
 |0,_,s=>(E0,s)
 |n+1,w,s=>
  if w=[40]then
   if s.bad=true∨40<s.deep+1 then(E0,{ s with deep:=s.deep+1,bad:=true })
   else
    let p:=b5_ n 1 { s with deep:=s.deep+1 }
    (p.1,if p.2.bad then p.2 else { bb_ p.2 with bad:=!(bn_ p.2==[41]) })
  else if bd_ w then(.mk 1 (av_ w) [] [],s)
  else if gw_ w then(.mk 2 0 w [],s)
  else(E0,{ s with bad:=true })
end
theorem iq_ (s:RS):(bb_ s).left.length≤s.left.length:=by
 unfold bb_;split<;>simp_all
theorem zj_:∀(l:List Str) (e:E) (d:Int),(asL l e d).2.left.length≤l.length∧(asL l e d).2.deep=d
 |[],e,d=>by simp[asL]
 |[w],e,d=>by simp only[asL];split<;>simp
 |w::t::r,e,d=>by
  simp only[asL]
  split
  ·have:=zj_ r (.mk 4 0 t [e]) d;simp only[T7_];omega
  ·simp
theorem ah4_ (s:RS) (e:E):(asR s e).2.left.length≤s.left.length:=by
 unfold asR;split
 ·exact Nat.le_refl _
 ·exact(zj_ s.left e s.deep).1
theorem are_ (s:RS) (e:E):(asR s e).2.deep=s.deep:=by
 unfold asR;split
 ·rfl
 ·exact(zj_ s.left e s.deep).2
theorem uj_ (s:RS):(bb_ s).deep=s.deep:=by unfold bb_;split<;>rfl
theorem ai6_:∀(n:Nat),(∀t s,(b5_ n t s).2.left.length≤s.left.length)∧(∀t e s,(dk_ n t e s).2.left.length≤s.left.length)∧(∀s,(fl_ n s).2.left.length≤s.left.length)∧(∀w s,(ef_ n w s).2.left.length≤s.left.length)
 |0=>by simp[b5_,dk_,fl_,ef_]
 |n+1=>by
  obtain⟨h1,h2,h3,h4⟩:=ai6_ n
  refine⟨fun t s=>?_,fun t e s=>?_,fun s=>?_,fun w s=>?_⟩
  ·simp only[b5_];split
   ·exact h3 s
   ·exact Nat.le_trans (h2 _ _ _) (h1 _ _)
  ·simp only[dk_];split
   ·exact Nat.le_trans (h2 _ _ _) (Nat.le_trans (h1 _ _) (iq_ s))
   ·exact Nat.le_refl _
  ·simp only[fl_];exact Nat.le_trans (ah4_ _ _) (Nat.le_trans (h4 _ _) (iq_ s))
  ·simp only[ef_]
   split
   ·split
    ·exact Nat.le_refl _
    ·dsimp only
     split
     ·exact h1 _ _
     ·exact Nat.le_trans (iq_ _) (h1 _ _)
   ·split
    ·exact Nat.le_refl _
    ·split<;>exact Nat.le_refl _
def okR (t:Nat) (l:List Str):Prop:=l.head?≠some wAs∧∀w,l.head? = some w→ap_ w≤t
theorem abu_ {l:List Str} {e:E} {d:Int} (h:l.head?≠some wAs):asL l e d=(e,⟨l,false,d⟩):=by
 match l,h with
 |[],_=>rfl
 |[w],h=>simp only[asL];rw[if_neg (fun e=>h (by rw[e];rfl))]
 |w::t::r,h=>simp only[asL];rw[if_neg (fun e=>h (by rw[e];rfl))]
theorem jf_ {n t:Nat} {e:E} {l:List Str} {d:Int} (h:∀w,l.head? = some w→ap_ w≠t):dk_ n t e ⟨l,false,d⟩=(e,⟨l,false,d⟩):=by
 cases n with
 |zero=>rfl
 |succ n=>
  simp only[dk_]
  rw[if_neg]
  rintro⟨_,h1,h2⟩
  cases l with
  |nil=>exact h1 rfl
  |cons w r=>exact h w rfl h2
def eff (e:E) (must:Int):Int:=if e.kind=3∧¬ap_ e.s<must then ap_ e.s else 4
theorem t8_ {s:Str} (h:fm_ s=true):s≠wAs∧s≠[41]:=by
 simp only[fm_,Bool.or_eq_true,beq_iff_eq]at h;rcases h with((h|h)|h)|h<;>subst h<;>decide
theorem afa_ {s:Str} (h:gw_ s=true):s≠[40]∧bd_ s=false:=by
 have h1:s.all ch_=true∧1≤s.length:=by simp only[gw_,ev_,T5_,T3_]at h;exact⟨h.1.1.1,h.1.1.2⟩
 refine⟨fun e=>by subst e;exact absurd h1.1 (by decide),?_⟩
 rw[Bool.eq_false_iff];intro hn
 obtain⟨n,_,rfl⟩:=dn_.1 hn
 have hd:=da_ n
 cases hl:Go.Lib.decDigits n with
 |nil=>rw[hl]at h1;simp at h1
 |cons c r=>
  rw[hl]at h1 hd
  have h2:=hd c (by simp)
  simp only[List.all_cons,T5_,ch_,T3_]at h1
  unfold gf_ at h2;omega
theorem mm_ {n:Nat} (h:n≤1000000):bd_ (Go.Lib.decDigits n)=true∧av_ (Go.Lib.decDigits n)=n∧Go.Lib.decDigits n≠[40]:=by
 refine⟨dn_.2 ⟨n,h,rfl⟩,d1_ n,fun e=>?_⟩
 have:=da_ n 40 (by rw[e];simp)
 unfold gf_ at this;revert this;decide
theorem ai2_ {e:E} {must:Int} (h:e.kind=3) (hl:e.kids.length=2) (ht:ap_ e.s<must):wds e must=[40]::(wds e 0++[[41]]):=by
 rw[d7_ h hl,if_pos ht,d7_ h hl,if_neg (by have:=tight_nn e.s;omega)];simp
where
 tight_nn (s:Str):0≤ap_ s:=by unfold ap_;split;decide;split;decide;split<;>decide
theorem gh_ (e:E) (must:Int) (h:must≤4):must≤eff e must:=by unfold eff;split<;>omega
theorem tn_ {n:Nat} {t:Nat} {s:RS} (h:t≠4):b5_ (n+1) t s=dk_ n t (b5_ n (t+1) s).1 (b5_ n (t+1) s).2:=by simp only[b5_];rw[if_neg h]
theorem tv_ {n:Nat} {s:RS}:b5_ (n+1) 4 s=fl_ n s:=by simp only[b5_,if_true]
theorem is_ {n:Nat} {w:Str} {s:RS} (h:w≠[40]) (h1:bd_ w=true):ef_ (n+1) w s=(.mk 1 (av_ w) [] [],s):=by simp[ef_,h,h1]
theorem he_ {n:Nat} {w:Str} {s:RS} (h:w≠[40]) (h1:bd_ w=false) (h2:gw_ w=true):ef_ (n+1) w s=(.mk 2 0 w [],s):=by simp[ef_,h,h1,h2]
theorem akn_ {n:Nat} {s:RS} (h:s.bad=false) (h1:s.deep+1≤40) {e:E} {p:RS} (hp:b5_ n 1 { s with deep:=s.deep+1 }=(e,p)) (hb:p.bad=false):ef_ (n+1) [40] s=(e,{ bb_ p with bad:=!(bn_ p==[41]) }):=by
 simp only[ef_,if_true];rw[if_neg (by rw[h];simp;omega)];simp only[hp,hb];rfl
theorem nx_ {n:Nat} {w:Str} {r:List Str} {d:Int}:fl_ (n+1) ⟨w::r,false,d⟩=asR (ef_ n w ⟨r,false,d⟩).2 (ef_ n w ⟨r,false,d⟩).1:=by simp only[fl_,bn_,bb_]
theorem n5_:∀(d:Nat) (e:E),form e d=true→
  (∀(must:Int) (rest:List Str) (deep:Int) (n:Nat),must≤4→eff e must=4→deep+(wds e must).length≤40→10 * ((wds e must).length+rest.length)+2≤n→
   ∃deep',deep'≤deep+(wds e must).length∧fl_ n ⟨wds e must++rest,false,deep⟩=asL rest e deep')∧
  (∀(must:Int) (t:Nat) (rest:List Str) (deep:Int) (n:Nat),must≤4→1≤t→t<4→(t:Int)≤eff e must→okR t rest→deep+(wds e must).length≤40→10 * ((wds e must).length+rest.length)+7≤n+t→
   ∃deep' m,deep'≤deep+(wds e must).length∧10 * rest.length+1≤m∧b5_ n t ⟨wds e must++rest,false,deep⟩=dk_ m t e ⟨rest,false,deep'⟩)
 |0,e,h=>by have:=(ar_ h).1;omega
 |d+1,e,h=>by
  have e1:((d+1:Nat):Int) - 1=(d:Int):=by omega
  -- an unbracketed Two, at its own level
  have two:∀(must:Int) (t:Nat) (rest:List Str) (deep:Int) (n:Nat),e.kind=3→¬ap_ e.s<must→ap_ e.s=t→okR t rest→deep+(wds e must).length≤40→10 * ((wds e must).length+rest.length)+7≤n+t→
    ∃deep' m,deep'≤deep+(wds e must).length∧10 * rest.length+1≤m∧b5_ n t ⟨wds e must++rest,false,deep⟩=dk_ m t e ⟨rest,false,deep'⟩:=by
   intro must t rest deep n k3 hb ht hr hd hn
   rcases (ar_ h).2 with⟨k1,_⟩|⟨k1,_⟩|⟨k1,h1,h2,h3,h4,h5⟩|⟨k1,_⟩
   ·omega
   ·omega
   ·rw[e1]at h4 h5
    obtain⟨_,A⟩:=n5_ d _ h4
    obtain⟨_,B⟩:=n5_ d _ h5
    have ht3:=by_ h2
    have hop:=t8_ h2
    rw[d7_ k1 h3,if_neg hb]at hd hn ⊢
    rw[ht]at hd hn ⊢
    simp only[T2_,T7_,List.length_nil]at hd hn
    simp only[List.append_assoc,List.cons_append,List.nil_append]
    obtain⟨d1,m,g1,g2,g3⟩:=A (max 2 (t:Int)) t (e.s::(wds (e.kids.getD 1 E0) ((t:Int)+1)++rest)) deep n (by omega) (by omega) (by omega) (by have:=gh_ (e.kids.getD 0 E0) (max 2 (t:Int)) (by omega);omega)
     ⟨by simp only[List.head?_cons,ne_eq,Option.some.injEq];exact hop.1,fun w hw=>by simp only[List.head?_cons,Option.some.injEq]at hw;subst hw;omega⟩ (by omega) (by simp only[T2_,T7_];omega)
    rw[g3]
    simp only[T2_,T7_]at g2
    obtain⟨m,rfl⟩:∃m',m=m'+1:=⟨m - 1,by omega⟩
    have lp:dk_ (m+1) t (e.kids.getD 0 E0) ⟨e.s::(wds (e.kids.getD 1 E0) ((t:Int)+1)++rest),false,d1⟩=dk_ m t (.mk 3 0 e.s [e.kids.getD 0 E0,(b5_ m (t+1) ⟨wds (e.kids.getD 1 E0) ((t:Int)+1)++rest,false,d1⟩).1]) (b5_ m (t+1) ⟨wds (e.kids.getD 1 E0) ((t:Int)+1)++rest,false,d1⟩).2:=by
     simp only[dk_,bn_,bb_];rw[if_pos ⟨trivial,by simp,ht⟩]
    rw[lp]
    have hbk:∃deep',deep'≤d1+(wds (e.kids.getD 1 E0) ((t:Int)+1)).length∧b5_ m (t+1) ⟨wds (e.kids.getD 1 E0) ((t:Int)+1)++rest,false,d1⟩=(e.kids.getD 1 E0,⟨rest,false,deep'⟩):=by
     by_cases h34:t=3
     ·subst h34
      obtain⟨Bh,_⟩:=n5_ d _ h5
      obtain⟨m',rfl⟩:∃m',m=m'+1:=⟨m - 1,by omega⟩
      have ef:eff (e.kids.getD 1 E0) ((3:Nat)+1)=4:=by
       have:=gh_ (e.kids.getD 1 E0) 4 (by omega)
       have h4:eff (e.kids.getD 1 E0) 4≤4:=by
        unfold eff;split
        ·rename_i hh;rcases (ar_ h5).2 with⟨k,_⟩|⟨k,_⟩|⟨k,_,hk,_⟩|⟨k,_⟩
         ·omega
         ·omega
         ·have:=by_ hk;omega
         ·omega
        ·omega
       show eff (e.kids.getD 1 E0) 4=4
       omega
      obtain⟨d2,q1,q2⟩:=Bh (((3:Nat):Int)+1) rest d1 m' (by omega) ef (by omega) (by omega)
      refine⟨d2,q1,?_⟩
      rw[tv_,q2,abu_ hr.1]
     ·obtain⟨d2,m2,q1,q2,q3⟩:=B ((t:Int)+1) (t+1) rest d1 m (by omega) (by omega) (by omega) (by have:=gh_ (e.kids.getD 1 E0) ((t:Int)+1) (by omega);omega) ⟨hr.1,fun w hw=>by have:=hr.2 w hw;omega⟩ (by omega) (by omega)
      refine⟨d2,q1,?_⟩
      rw[q3,jf_ fun w hw=>by have:=hr.2 w hw;omega]
    obtain⟨d2,q1,q2⟩:=hbk
    rw[q2]
    refine⟨d2,m,?_,by omega,?_⟩
    ·simp only[T2_,T7_,List.length_nil];omega
    ·have he:e = .mk 3 0 e.s [e.kids.getD 0 E0,e.kids.getD 1 E0]:=by
      rw[←j8_ h3,←h1,←k1,E.eta]
     rw[←he]
   ·omega
  have jn_:∀(must:Int) (rest:List Str) (deep:Int) (n:Nat),must≤4→eff e must=4→deep+(wds e must).length≤40→10 * ((wds e must).length+rest.length)+2≤n→
    ∃deep',deep'≤deep+(wds e must).length∧fl_ n ⟨wds e must++rest,false,deep⟩=asL rest e deep':=by
   intro must rest deep n hm he hd hn
   rcases (ar_ h).2 with⟨k1,h1,h2,h3,h4⟩|⟨k1,h1,h2,h3⟩|⟨k1,h1,h2,h3,h4,h5⟩|⟨k1,h1,h2,h3,h4⟩
   ·rw[dp_ k1]at hd hn ⊢
    obtain⟨n,rfl⟩:∃n',n=n'+2:=⟨n - 2,by omega⟩
    obtain⟨g1,g2,g3⟩:=mm_ (n:=e.n.toNat) (by omega)
    refine⟨deep,by simp;omega,?_⟩
    have:(.mk 1 (av_ (Go.Lib.decDigits e.n.toNat):Int) [] []:E)=e:=by
     rw[g2,Int.toNat_of_nonneg h1,←h3,←h4,←k1,h3,h4];conv=>rhs;rw[←E.eta e,h3,h4]
    rw[List.cons_append,List.nil_append,nx_,is_ g3 g1,this]
    rfl
   ·rw[cs_ k1]at hd hn ⊢
    obtain⟨n,rfl⟩:∃n',n=n'+2:=⟨n - 2,by omega⟩
    obtain⟨g1,g2⟩:=afa_ h2
    refine⟨deep,by simp;omega,?_⟩
    have:(.mk 2 0 e.s []:E)=e:=by conv=>rhs;rw[←E.eta e,h3,h1,k1]
    rw[List.cons_append,List.nil_append,nx_,he_ g1 g2 h2,this]
    rfl
   ·have ht3:=by_ h2
    have hb:ap_ e.s<must:=by
     by_cases hh:ap_ e.s<must
     ·exact hh
     ·unfold eff at he;rw[if_pos ⟨k1,hh⟩]at he;omega
    rw[ai2_ k1 h3 hb]at hd hn ⊢
    simp only[T7_,T2_,List.length_nil]at hd hn
    obtain⟨n,rfl⟩:∃n',n=n'+2:=⟨n - 2,by omega⟩
    obtain⟨t,ht⟩:∃t:Nat,ap_ e.s=t:=⟨(ap_ e.s).toNat,by omega⟩
    -- level 1 inside
    have inner:∃d1 m,d1≤deep+1+(wds e 0).length∧1≤m∧b5_ n 1 ⟨wds e 0++[41]::rest,false,deep+1⟩=dk_ m 1 e ⟨[41]::rest,false,d1⟩:=by
     have hr:∀t,okR t ([41]::rest):=fun t=>⟨by simp[wAs],fun w hw=>by simp at hw;subst hw;simp[ap_]⟩
     have up:∀k:Nat,k<t→∀n,10 * ((wds e 0).length+(rest.length+1))+7≤n+(t - k)→∃d1 m,d1≤deep+1+(wds e 0).length∧1≤m∧b5_ n (t - k) ⟨wds e 0++[41]::rest,false,deep+1⟩=dk_ m (t - k) e ⟨[41]::rest,false,d1⟩:=by
      intro k
      induction k with
      |zero=>
       intro _ n hn
       obtain⟨d1,m,q1,q2,q3⟩:=two 0 t ([41]::rest) (deep+1) n k1 (by omega) ht (hr t) (by omega) (by simp only[T7_];omega)
       exact⟨d1,m,q1,by simp only[T7_]at q2;omega,q3⟩
      |succ k ih=>
       intro hk n hn
       obtain⟨n,rfl⟩:∃n',n=n'+1:=⟨n - 1,by omega⟩
       obtain⟨d1,m,q1,q2,q3⟩:=ih (by omega) n (by omega)
       refine⟨d1,n,q1,by omega,?_⟩
       rw[tn_ (by omega),show t - (k+1)+1=t - k by omega,q3,jf_ fun w hw=>by simp at hw;subst hw;simp[ap_];omega]
     have:=up (t - 1) (by omega) n (by omega)
     rwa [show t - (t - 1)=1 by omega]at this
    obtain⟨d1,m,q1,q2,q3⟩:=inner
    rw[jf_ fun w hw=>by simp at hw;subst hw;simp[ap_]]at q3
    refine⟨d1,by simp only[T7_,T2_,List.length_nil];omega,?_⟩
    rw[List.cons_append,nx_,List.append_assoc]
    rw[akn_ (s:=⟨wds e 0++([[41]]++rest),false,deep⟩) rfl (by dsimp only;omega) q3 rfl]
    rfl
   ·rw[e1]at h4
    obtain⟨A,_⟩:=n5_ d _ h4
    have ef:eff (e.kids.getD 0 E0) 4=4:=by
     have:=gh_ (e.kids.getD 0 E0) 4 (by omega)
     have h4':eff (e.kids.getD 0 E0) 4≤4:=by
      unfold eff;split
      ·rename_i hh;rcases (ar_ h4).2 with⟨k,_⟩|⟨k,_⟩|⟨k,_,hk,_⟩|⟨k,_⟩
       ·omega
       ·omega
       ·have:=by_ hk;omega
       ·omega
      ·omega
     omega
    rw[iz_ k1 h3]at hd hn ⊢
    simp only[T7_,T2_,List.length_nil]at hd hn
    obtain⟨d1,q1,q2⟩:=A 4 (wAs::e.s::rest) deep n (by omega) ef (by omega) (by simp only[T7_];omega)
    refine⟨d1,by simp only[T7_,T2_,List.length_nil];omega,?_⟩
    rw[List.append_assoc]
    have hE:(.mk 4 0 e.s [e.kids.getD 0 E0]:E)=e:=by conv=>rhs;rw[←E.eta e,uq_ h3,h1,k1]
    refine q2.trans ?_
    simp only[asL,if_true]
    rw[hE]
  refine⟨jn_,?_⟩
  -- from the own level down to t
  intro must t rest deep n hm ht1 ht4 ht hr hd hn
  have hk:∀k:Nat,t+k≤4→((t+k:Nat):Int)=eff e must→∃deep' m,deep'≤deep+(wds e must).length∧10 * rest.length+1≤m∧b5_ n t ⟨wds e must++rest,false,deep⟩=dk_ m t e ⟨rest,false,deep'⟩:=by
   intro k
   induction k generalizing t n with
   |zero=>
    intro _ hef
    rcases (ar_ h).2 with⟨k1,_⟩|⟨k1,_⟩|⟨k1,h1,h2,h3,h4,h5⟩|⟨k1,_⟩
    ·unfold eff at hef;rw[if_neg (by omega)]at hef;omega
    ·unfold eff at hef;rw[if_neg (by omega)]at hef;omega
    ·unfold eff at hef
     by_cases hb:ap_ e.s<must
     ·rw[if_neg (by omega)]at hef;omega
     ·rw[if_pos ⟨k1,hb⟩]at hef
      exact two must t rest deep n k1 hb (by omega) hr hd hn
    ·unfold eff at hef;rw[if_neg (by omega)]at hef;omega
   |succ k ih=>
    intro h4 hef
    obtain⟨n,rfl⟩:∃n',n=n'+1:=⟨n - 1,by omega⟩
    by_cases h34:t=3
    ·subst h34
     obtain⟨n,rfl⟩:∃n',n=n'+1:=⟨n - 1,by omega⟩
     obtain⟨d1,q1,q2⟩:=jn_ must rest deep n hm (by omega) hd (by omega)
     refine⟨d1,n+1,q1,by omega,?_⟩
     rw[tn_ (by omega),tv_,q2,abu_ hr.1]
    ·obtain⟨d1,m,q1,q2,q3⟩:=ih (t+1) n (by omega) (by omega) (by omega) ⟨hr.1,fun w hw=>by have:=hr.2 w hw;omega⟩ (by omega) (by omega) (by omega)
     refine⟨d1,n,q1,by omega,?_⟩
     rw[tn_ (by omega),q3,jf_ fun w hw=>by have:=hr.2 w hw;omega]
  have heff:eff e must≤4:=by
   unfold eff;split
   ·rename_i hh;rcases (ar_ h).2 with⟨k,_⟩|⟨k,_⟩|⟨k,_,hk,_⟩|⟨k,_⟩
    ·omega
    ·omega
    ·have:=by_ hk;omega
    ·omega
   ·omega
  exact hk (eff e must - t).toNat (by omega) (by omega)
theorem axd_ {e:E} (h:eok e=true) (hl:(wds e 1).length≤40) {n:Nat} (hn:410≤n):∃deep',b5_ n 1 ⟨wds e 1,false,0⟩=(e,⟨[],false,deep'⟩):=by
 have he:1≤eff e 1:=gh_ e 1 (by omega)
 obtain⟨d1,m,q1,q2,q3⟩:=(n5_ 5 e (ay_ h)).2 1 1 [] 0 n (by omega) (by omega) (by omega) he ⟨by simp,fun w hw=>by simp at hw⟩ (by omega) (by simp;omega)
 rw[List.append_nil]at q3
 exact⟨d1,by rw[q3,jf_ fun w hw=>by simp at hw]⟩
end
section
theorem rh_ (c:UInt8):b1_ c=true↔gf_ c:=mz_ c
theorem pc_ (l:Str):((f4_ l).2&&(decide (0≤(f4_ l).1)&&decide ((f4_ l).1≤1000000)))=bd_ l∧(bd_ l=true→(f4_ l).1=av_ l):=by
 have key:bd_ l=true→(f4_ l).2=true∧(f4_ l).1=av_ l:=fun h=>by
  obtain⟨n,hn,rfl⟩:=dn_.1 h
  have hd:=da_ n
  have hlen:=ng_ hn
  have hh:(Go.Lib.decDigits n).head?≠some 45:=fun e=>by
   have:=hd 45 (List.mem_of_mem_head? (by rw[e];rfl));unfold gf_ at this;revert this;decide
  have hz:(Go.Lib.decDigits n).head? = some 48→(Go.Lib.decDigits n).length≤1:=fun e=>by
   by_cases h:n<10
   ·rw[Go.Lib.decDigits_one h];simp
   ·exfalso;exact dec_lead n (by omega) e
  have hne:(Go.Lib.decDigits n).length≠0:=fun e=>fc_ n (List.eq_nil_of_length_eq_zero e)
  unfold f4_
  simp only[show((Go.Lib.decDigits n).head?==some 45)=false by simpa using hh,Bool.false_eq_true,if_false,or_false]
  rw[if_neg (by rintro(h|h|⟨h1,h2⟩);exact hne h;omega;have:=hz h1;omega),if_pos (List.all_eq_true.2 fun c hc=>(rh_ c).2 (hd c hc))]
  exact⟨rfl,rfl⟩
 refine⟨?_,fun h=>(key h).2⟩
 cases h:bd_ l with
 |true=>
  obtain⟨h1,h2⟩:=key h
  obtain⟨n,hn,rfl⟩:=dn_.1 h
  rw[h1,h2,d1_];simp;omega
 |false=>
  rw[Bool.eq_false_iff]
  intro hh
  rw[Bool.eq_false_iff]at h
  apply h
  simp only[T5_,T3_]at hh
  obtain⟨h1,h2,h3⟩:=hh
  unfold f4_ at h1 h2 h3
  cases hneg:(l.head?==some 45)with
  |true=>
   exfalso
   simp only[hneg,if_true]at h1 h2 h3
   split at h1
   ·cases h1
   ·rename_i hc
    rw[if_neg hc]at h2 h3
    split at h1
    ·rename_i hall
     rw[if_pos hall]at h2 h3
     have hd:∀c∈l.tail,gf_ c:=fun c hc=>(rh_ c).1 (List.all_eq_true.1 hall c hc)
     have hne:l.tail≠[]:=fun e=>hc (.inl (by rw[e];rfl))
     have:=(lead hne hd (fun e=>hc (.inr (.inr ⟨e,.inr trivial⟩)))).1
     omega
    ·cases h1
  |false=>
   simp only[hneg,Bool.false_eq_true,if_false,or_false]at h1 h2 h3
   split at h1
   ·cases h1
   ·rename_i hc
    rw[if_neg hc]at h2 h3
    split at h1
    ·rename_i hall
     rw[if_pos hall]at h2 h3
     have hd:∀c∈l,gf_ c:=fun c hc=>(rh_ c).1 (List.all_eq_true.1 hall c hc)
     have hne:l≠[]:=fun e=>hc (.inl (by rw[e];rfl))
     refine dn_.2 ⟨av_ l,by omega,?_⟩
     by_cases h0:l.head? = some 48
     ·have:¬1<l.length:=fun h=>hc (.inr (.inr ⟨h0,h⟩))
      match l,h0,this,hne with
      |[c],h0,_,_=>simp at h0;subst h0;rw[show av_ [48]=0 from rfl,Go.Lib.decDigits_one (by decide)];rfl
      |_::_::_,_,h,_=>simp at h
     ·exact(lead hne hd h0).2.symm
    ·cases h1
where
 dec_lead (n:Nat) (h:1≤n):(Go.Lib.decDigits n).head?≠some 48:=by
  induction n using Nat.strongRecOn with
  |ind n ih=>
   by_cases h1:n<10
   ·rw[Go.Lib.decDigits_one h1]
    simp only[List.head?_cons,ne_eq,Option.some.injEq]
    intro e
    have:=v3_ h1
    rw[e]at this
    have e2:(48:UInt8).toNat=48:=rfl
    omega
   ·rw[cq_ h1]
    have:=ih (n / 10) (by omega) (by omega)
    cases hl:Go.Lib.decDigits (n / 10)with
    |nil=>exact absurd hl (fc_ _)
    |cons c r=>rw[hl]at this;simpa using this
def sAs:Nat→List Str→Nat→E→E × Option Nat
 |0,_,_,e=>(e,none)
 |n+1,w,k,e=>if w.getD k []=wAs then(if fe_ (w.getD (k+1) [])then sAs n w (k+2) (.mk 4 0 (w.getD (k+1) []) [e])else(e,none))else(e,some k)
mutual
def ed_:Nat→List Str→Nat→Int→E × Option Nat
 |0,_,_,_=>(E0,none)
 |n+1,w,k,deep=>
  if bd_ (w.getD k [])then sAs n w (k+1) (.mk 1 (av_ (w.getD k [])) [] [])
  else if gw_ (w.getD k [])then sAs n w (k+1) (.mk 2 0 (w.getD k []) [])
  else if w.getD k []=[40]∧0<deep then
   match (sL1 n w (k+1) (deep - 1)).2 with
   |none=>((sL1 n w (k+1) (deep - 1)).1,none)
   |some b=>if w.getD b []=[41]then sAs n w (b+1) (sL1 n w (k+1) (deep - 1)).1 else((sL1 n w (k+1) (deep - 1)).1,none)
  else(E0,none)
def sLp:Nat→List Str→Nat→Nat→Int→E × Option Nat
 |0,_,_,_,_=>(E0,none)
 |n+1,w,k,t,deep=>if 3<t then ed_ n w k deep else e3_ n w t deep (sLp n w k (t+1) deep).1 (sLp n w k (t+1) deep).2
def e3_:Nat→List Str→Nat→Int→E→Option Nat→E × Option Nat
 |0,_,_,_,e,_=>(e,none)
 |_+1,_,_,_,e,none=>(e,none)
 |n+1,w,t,deep,e,some k=>if ap_ (w.getD k [])=t then e3_ n w t deep (.mk 3 0 (w.getD k []) [e,(sLp n w (k+1) (t+1) deep).1]) (sLp n w (k+1) (t+1) deep).2 else(e,some k)
def sL1:Nat→List Str→Nat→Int→E × Option Nat
 |0,_,_,_=>(E0,none)
 |n+1,w,k,deep=>
  match (sLp n w k 2 deep).2 with
  |none=>((sLp n w k 2 deep).1,none)
  |some b=>if w.getD b []=[60]then(.mk 3 0 [60] [(sLp n w k 2 deep).1,(sLp n w (b+1) 2 deep).1],(sLp n w (b+1) 2 deep).2)else((sLp n w k 2 deep).1,some b)
end
theorem im_ {w l:List Str} {k:Nat} {s:Str} (h:w.drop k=s::l):w.getD k []=s∧w.drop (k+1)=l:=by
 have hk:k<w.length:=by
  rcases Nat.lt_or_ge k w.length with h1|h1
  ·exact h1
  ·rw[List.drop_of_length_le h1]at h;cases h
 rw[List.drop_eq_getElem_cons hk]at h
 injection h with h1 h2
 exact⟨by rw[T8_,T6_ hk];exact h1,h2⟩
theorem zi_ {w l:List Str} {k:Nat} (h:w.drop k=l):w.getD k []=l.headD []:=by
 cases l with
 |nil=>
  have:w.length≤k:=by simpa using h
  simp[T8_,List.getElem?_eq_none this]
 |cons s l=>exact(im_ h).1
theorem ds_ {w a l:List Str} {k:Nat} (h:w.drop k=a++l):w.drop (k+a.length)=l:=by
 rw[←List.drop_drop,h];simp
theorem ad6_ {n:Nat} {w:List Str} {k:Nat} {e:E} {rest:List Str} (hk:w.drop k=rest) (h:rest.head?≠some wAs):sAs (n+1) w k e=(e,some k):=by
 simp only[sAs]
 rw[if_neg]
 rw[zi_ hk]
 cases rest with
 |nil=>decide
 |cons a r=>simpa using h
theorem fz_ {w:List Str} {k:Nat} {rest:List Str} (hk:w.drop k=rest) {P:Int→Prop} (h0:P 0) (h:∀x,rest.head? = some x→P (ap_ x)):P (ap_ (w.getD k [])):=by
 rw[zi_ hk]
 cases rest with
 |nil=>exact h0
 |cons a r=>exact h a rfl
theorem eo_ {n:Nat} {w:List Str} {t:Nat} {deep:Int} {e:E} {k:Nat} (h:ap_ (w.getD k [])≠t):e3_ (n+1) w t deep e (some k)=(e,some k):=by
 simp only[e3_];rw[if_neg h]
theorem akw_ {s:Str} (h:ap_ s=1):s=[60]:=by
 unfold ap_ at h
 by_cases h1:s=[60]
 ·exact h1
 ·by_cases h2:s=[43]∨s=[45]
  ·rcases h2 with rfl|rfl<;>simp at h
  ·by_cases h3:s=[42]
   ·subst h3;simp at h
   ·simp[h1,h3]at h;simp_all
theorem ag7_ {e:E} {d must:Int} (h:form e d=true):eff e must≤4:=by
 unfold eff;split
 ·rename_i hh;rcases (ar_ h).2 with⟨k,_⟩|⟨k,_⟩|⟨k,_,hk,_⟩|⟨k,_⟩
  ·omega
  ·omega
  ·have:=by_ hk;omega
  ·omega
 ·omega
theorem mo_ {n:Nat} {w:List Str} {k:Nat} {deep:Int} (h:bd_ (w.getD k [])=true):ed_ (n+1) w k deep=sAs n w (k+1) (.mk 1 (av_ (w.getD k [])) [] []):=by simp only[ed_,h,if_true]
theorem kx_ {n:Nat} {w:List Str} {k:Nat} {deep:Int} (h:bd_ (w.getD k [])=false) (h2:gw_ (w.getD k [])=true):ed_ (n+1) w k deep=sAs n w (k+1) (.mk 2 0 (w.getD k []) []):=by simp only[ed_,h,h2,if_true,Bool.false_eq_true,if_false]
theorem m7_ {n:Nat} {w:List Str} {k b:Nat} {deep:Int} {x:E} (h:w.getD k []=[40]) (hd:0<deep) (hx:sL1 n w (k+1) (deep - 1)=(x,some b)) (hb:w.getD b []=[41]):ed_ (n+1) w k deep=sAs n w (b+1) x:=by
 have h1:bd_ [40]=false:=by
  rw[Bool.eq_false_iff];intro h
  obtain⟨n,hn,h⟩:=dn_.1 h
  exact(mm_ hn).2.2 h.symm
 have h2:gw_ [40]=false:=by decide
 simp only[ed_,h,h1,h2,Bool.false_eq_true,if_false,hx,hb,if_true,true_and]
 rw[if_pos hd]
theorem me_ (w:List Str):∀(d:Nat) (e:E),form e d=true→
  (∀(must:Int) (rest:List Str) (k:Nat) (deep:Int) (n:Nat),must≤4→eff e must=4→d≤deep→w.drop k=wds e must++rest→10 * ((wds e must).length+rest.length)+2≤n→
   ∃m,rest.length+1≤m∧ed_ n w k deep=sAs m w (k+(wds e must).length) e)∧
  (∀(must:Int) (t:Nat) (rest:List Str) (k:Nat) (deep:Int) (n:Nat),must≤4→2≤t→t<4→(t:Int)≤eff e must→okR t rest→d≤deep→w.drop k=wds e must++rest→10 * ((wds e must).length+rest.length)+7≤n+t→
   ∃m,10 * rest.length+1≤m∧sLp n w k t deep=e3_ m w t deep e (some (k+(wds e must).length)))∧
  (∀(rest:List Str) (k:Nat) (deep:Int) (n:Nat),e.kind=3→okR 0 rest→(d:Int)≤deep+1→w.drop k=wds e 0++rest→10 * ((wds e 0).length+rest.length)+7≤n→
   sL1 n w k deep=(e,some (k+(wds e 0).length)))
 |0,e,h=>by have:=(ar_ h).1;omega
 |d+1,e,h=>by
  have e1:((d+1:Nat):Int) - 1=(d:Int):=by omega
  have two:∀(must:Int) (t:Nat) (rest:List Str) (k:Nat) (deep:Int) (n:Nat),e.kind=3→¬ap_ e.s<must→ap_ e.s=t→2≤t→okR t rest→d≤deep→w.drop k=wds e must++rest→10 * ((wds e must).length+rest.length)+7≤n+t→
    ∃m,10 * rest.length+1≤m∧sLp n w k t deep=e3_ m w t deep e (some (k+(wds e must).length)):=by
   intro must t rest k deep n k3 hb ht ht2 hr hd hk hn
   rcases (ar_ h).2 with⟨k1,_⟩|⟨k1,_⟩|⟨k1,h1,h2,h3,h4,h5⟩|⟨k1,_⟩
   ·omega
   ·omega
   ·rw[e1]at h4 h5
    have A:=(me_ w d _ h4).2.1
    have B:=me_ w d _ h5
    have ht3:=by_ h2
    have hop:=t8_ h2
    rw[d7_ k1 h3,if_neg hb]at hk hn ⊢
    rw[ht]at hk hn ⊢
    rw[show max 2 (t:Int)=t by omega]at hk hn ⊢
    simp only[T2_,T7_,List.length_nil]at hn ⊢
    simp only[List.append_assoc,List.cons_append,List.nil_append]at hk
    obtain⟨m,g2,g3⟩:=A (t:Int) t (e.s::(wds (e.kids.getD 1 E0) ((t:Int)+1)++rest)) k deep n (by omega) (by omega) (by omega) (gh_ (e.kids.getD 0 E0) (t:Int) (by omega))
     ⟨by simp only[List.head?_cons,ne_eq,Option.some.injEq];exact hop.1,fun w hw=>by simp only[List.head?_cons,Option.some.injEq]at hw;subst hw;omega⟩ hd hk (by simp only[T2_,T7_];omega)
    rw[g3]
    simp only[T2_,T7_]at g2
    obtain⟨m,rfl⟩:∃m',m=m'+1:=⟨m - 1,by omega⟩
    obtain⟨q1,q2⟩:=im_ (ds_ hk)
    have hmm:10 * ((wds (e.kids.getD 1 E0) ((t:Int)+1)).length+rest.length)+10≤m:=by omega
    have hbk:sLp m w (k+(wds (e.kids.getD 0 E0) t).length+1) (t+1) deep=(e.kids.getD 1 E0,some (k+(wds (e.kids.getD 0 E0) t).length+1+(wds (e.kids.getD 1 E0) ((t:Int)+1)).length)):=by
     by_cases h34:t=3
     ·subst h34
      obtain⟨m',rfl⟩:∃m',m=m'+1:=⟨m - 1,by omega⟩
      have ef:eff (e.kids.getD 1 E0) ((3:Nat)+1)=4:=by
       have h1:=gh_ (e.kids.getD 1 E0) 4 (by omega)
       have h2:=ag7_ (must:=4) h5
       show eff (e.kids.getD 1 E0) 4=4
       omega
      obtain⟨m2,r1,r2⟩:=B.1 (((3:Nat):Int)+1) rest _ deep m' (by omega) ef hd q2 (by omega)
      obtain⟨m2,rfl⟩:∃m',m2=m'+1:=⟨m2 - 1,by omega⟩
      simp only[sLp]
      rw[if_pos (by omega),r2,ad6_ (ds_ q2) hr.1]
     ·obtain⟨m2,r1,r2⟩:=B.2.1 ((t:Int)+1) (t+1) rest _ deep m (by omega) (by omega) (by omega) (by have:=gh_ (e.kids.getD 1 E0) ((t:Int)+1) (by omega);omega) ⟨hr.1,fun w hw=>by have:=hr.2 w hw;omega⟩ hd q2 (by omega)
      obtain⟨m2,rfl⟩:∃m',m2=m'+1:=⟨m2 - 1,by omega⟩
      rw[r2,eo_]
      exact fz_ (P:=fun x=>x≠((t+1:Nat):Int)) (ds_ q2) (by omega) fun x hx=>by have:=hr.2 x hx;omega
    refine⟨m,by omega,?_⟩
    have he:e = .mk 3 0 e.s [e.kids.getD 0 E0,e.kids.getD 1 E0]:=by
     rw[←j8_ h3,←h1,←k1,E.eta]
    simp only[e3_]
    rw[q1,if_pos ht,hbk,←he]
    exact congrArg (fun x=>e3_ m w t deep e (some x)) (by omega)
   ·omega
  -- level 1, without brackets
  have one:∀(rest:List Str) (k:Nat) (deep:Int) (n:Nat),e.kind=3→okR 0 rest→d≤deep→w.drop k=wds e 0++rest→10 * ((wds e 0).length+rest.length)+7≤n→
    sL1 n w k deep=(e,some (k+(wds e 0).length)):=by
   intro rest k deep n k3 hr hd hk hn
   rcases (ar_ h).2 with⟨k1,_⟩|⟨k1,_⟩|⟨k1,h1,h2,h3,h4,h5⟩|⟨k1,_⟩
   ·omega
   ·omega
   ·have ht3:=by_ h2
    obtain⟨n,rfl⟩:∃n',n=n'+1:=⟨n - 1,by omega⟩
    by_cases ht1:ap_ e.s=1
    ·rw[e1]at h4 h5
     have A:=(me_ w d _ h4).2.1
     have B:=(me_ w d _ h5).2.1
     have hs:=akw_ ht1
     rw[d7_ k1 h3,if_neg (by omega),ht1]at hk hn ⊢
     simp only[T2_,T7_,List.length_nil]at hn ⊢
     simp only[List.append_assoc,List.cons_append,List.nil_append]at hk
     obtain⟨m,g2,g3⟩:=A 2 2 (e.s::(wds (e.kids.getD 1 E0) (1+1)++rest)) k deep n (by omega) (by omega) (by omega) (gh_ (e.kids.getD 0 E0) 2 (by omega))
      ⟨by simp only[List.head?_cons,ne_eq,Option.some.injEq];exact(t8_ h2).1,fun w hw=>by simp only[List.head?_cons,Option.some.injEq]at hw;subst hw;omega⟩ hd hk (by
       simp only[T2_,T7_]
       have:max 2 (1:Int)=2:=rfl
       rw[this]at hn;omega)
     have e3:max 2 (1:Int)=2:=rfl
     rw[e3]at hk ⊢
     obtain⟨m,rfl⟩:∃m',m=m'+1:=⟨m - 1,by omega⟩
     obtain⟨q1,q2⟩:=im_ (ds_ hk)
     rw[eo_ (by rw[q1];omega)]at g3
     obtain⟨m2,r1,r2⟩:=B 2 2 rest _ deep n (by omega) (by omega) (by omega) (gh_ (e.kids.getD 1 E0) 2 (by omega)) ⟨hr.1,fun w hw=>by have:=hr.2 w hw;omega⟩ hd q2 (by rw[e3]at hn;have:(wds (e.kids.getD 1 E0) 2).length=(wds (e.kids.getD 1 E0) (1+1)).length:=rfl;omega)
     obtain⟨m2,rfl⟩:∃m',m2=m'+1:=⟨m2 - 1,by omega⟩
     have hstop:ap_ (w.getD (k+(wds (e.kids.getD 0 E0) 2).length+1+(wds (e.kids.getD 1 E0) 2).length) [])≠((2:Nat):Int):=
      fz_ (P:=fun x=>x≠((2:Nat):Int)) (ds_ q2) (by omega) fun x hx=>by have:=hr.2 x hx;omega
     rw[eo_ hstop]at r2
     have he:e = .mk 3 0 [60] [e.kids.getD 0 E0,e.kids.getD 1 E0]:=by
      rw[←j8_ h3,←hs,←h1,←k1,E.eta]
     simp only[sL1,g3,q1,hs,if_true,r2,←he]
     exact congrArg (fun x=>(e,some x)) (by show k+(wds (e.kids.getD 0 E0) 2).length+1+(wds (e.kids.getD 1 E0) 2).length=k+((wds (e.kids.getD 0 E0) 2).length+(0+1)+(wds (e.kids.getD 1 E0) 2).length);omega)
    ·-- level 2 or 3
     obtain⟨t,ht⟩:∃t:Nat,ap_ e.s=t:=⟨(ap_ e.s).toNat,by omega⟩
     have h20:∃m,1≤m∧sLp n w k 2 deep=e3_ m w 2 deep e (some (k+(wds e 0).length)):=by
      by_cases h2t:t=2
      ·subst h2t
       obtain⟨m,r1,r2⟩:=two 0 2 rest k deep n k1 (by omega) ht (by omega) ⟨hr.1,fun w hw=>by have:=hr.2 w hw;omega⟩ hd hk (by omega)
       exact⟨m,by omega,r2⟩
      ·have h3t:t=3:=by omega
       subst h3t
       obtain⟨n,rfl⟩:∃n',n=n'+1:=⟨n - 1,by omega⟩
       obtain⟨m,r1,r2⟩:=two 0 3 rest k deep n k1 (by omega) ht (by omega) ⟨hr.1,fun w hw=>by have:=hr.2 w hw;omega⟩ hd hk (by omega)
       obtain⟨m,rfl⟩:∃m',m=m'+1:=⟨m - 1,by omega⟩
       refine⟨n,by omega,?_⟩
       simp only[sLp]
       rw[if_neg (by omega),r2,eo_]
       exact fz_ (P:=fun x=>x≠((3:Nat):Int)) (ds_ hk) (by omega) fun x hx=>by have:=hr.2 x hx;omega
     obtain⟨m,r1,r2⟩:=h20
     obtain⟨m,rfl⟩:∃m',m=m'+1:=⟨m - 1,by omega⟩
     rw[eo_ (fz_ (P:=fun x=>x≠((2:Nat):Int)) (ds_ hk) (by omega) fun x hx=>by have:=hr.2 x hx;omega)]at r2
     have hlt:w.getD (k+(wds e 0).length) []≠[60]:=fun e60=>by
      have:=fz_ (P:=fun x=>x≤0) (ds_ hk) (by omega) fun x hx=>by have:=hr.2 x hx;omega
      rw[e60]at this;revert this;decide
     simp only[sL1,r2,hlt,if_false]
   ·omega
  have jn_:∀(must:Int) (rest:List Str) (k:Nat) (deep:Int) (n:Nat),must≤4→eff e must=4→((d+1:Nat):Int)≤deep→w.drop k=wds e must++rest→10 * ((wds e must).length+rest.length)+2≤n→
    ∃m,rest.length+1≤m∧ed_ n w k deep=sAs m w (k+(wds e must).length) e:=by
   intro must rest k deep n hm he hd hk hn
   rcases (ar_ h).2 with⟨k1,h1,h2,h3,h4⟩|⟨k1,h1,h2,h3⟩|⟨k1,h1,h2,h3,h4,h5⟩|⟨k1,h1,h2,h3,h4⟩
   ·rw[dp_ k1]at hk hn ⊢
    obtain⟨n,rfl⟩:∃n',n=n'+1:=⟨n - 1,by omega⟩
    obtain⟨g1,g2,g3⟩:=mm_ (n:=e.n.toNat) (by omega)
    obtain⟨q1,q2⟩:=im_ hk
    refine⟨n,by simp at hn;omega,?_⟩
    have:(.mk 1 (av_ (Go.Lib.decDigits e.n.toNat):Int) [] []:E)=e:=by
     rw[g2,Int.toNat_of_nonneg h1];conv=>rhs;rw[←E.eta e,h3,h4,k1]
    rw[mo_ (by rw[q1];exact g1),q1,this];rfl
   ·rw[cs_ k1]at hk hn ⊢
    obtain⟨n,rfl⟩:∃n',n=n'+1:=⟨n - 1,by omega⟩
    obtain⟨g1,g2⟩:=afa_ h2
    obtain⟨q1,q2⟩:=im_ hk
    refine⟨n,by simp at hn;omega,?_⟩
    have:(.mk 2 0 e.s []:E)=e:=by conv=>rhs;rw[←E.eta e,h3,h1,k1]
    rw[kx_ (by rw[q1];exact g2) (by rw[q1];exact h2),q1,this];rfl
   ·have ht3:=by_ h2
    have hb:ap_ e.s<must:=by
     by_cases hh:ap_ e.s<must
     ·exact hh
     ·unfold eff at he;rw[if_pos ⟨k1,hh⟩]at he;omega
    rw[ai2_ k1 h3 hb]at hk hn ⊢
    simp only[T7_,T2_,List.length_nil]at hn ⊢
    obtain⟨n,rfl⟩:∃n',n=n'+1:=⟨n - 1,by omega⟩
    rw[List.cons_append,List.append_assoc]at hk
    obtain⟨q1,q2⟩:=im_ hk
    have inner:=one ([[41]]++rest) (k+1) (deep - 1) n k1 ⟨by simp[wAs],fun w hw=>by simp at hw;subst hw;simp[ap_]⟩ (by omega) q2 (by simp;omega)
    obtain⟨q3,q4⟩:=im_ (ds_ q2)
    refine⟨n,by omega,?_⟩
    rw[m7_ q1 (by omega) inner q3]
    congr 1;omega
   ·rw[e1]at h4
    have A:=(me_ w d _ h4).1
    have ef:eff (e.kids.getD 0 E0) 4=4:=by
     have h1:=gh_ (e.kids.getD 0 E0) 4 (by omega)
     have h2:=ag7_ (must:=4) h4
     omega
    rw[iz_ k1 h3]at hk hn ⊢
    simp only[T7_,T2_,List.length_nil]at hn ⊢
    rw[List.append_assoc]at hk
    obtain⟨m,r1,r2⟩:=A 4 ([[97,115],e.s]++rest) k deep n (by omega) ef (by omega) hk (by simp only[T7_,T2_,List.length_nil];omega)
    simp only[T7_,T2_,List.length_nil]at r1
    obtain⟨m,rfl⟩:∃m',m=m'+1:=⟨m - 1,by omega⟩
    obtain⟨q1,q2⟩:=im_ (ds_ hk)
    obtain⟨q3,q4⟩:=im_ q2
    refine⟨m,by omega,?_⟩
    have hE:(.mk 4 0 e.s [e.kids.getD 0 E0]:E)=e:=by conv=>rhs;rw[←E.eta e,uq_ h3,h1,k1]
    rw[r2]
    simp only[sAs]
    rw[q1,if_pos (by rfl),q3,if_pos h2,hE];rfl
  refine⟨jn_,?_,fun rest k deep n h1 h2 h3 h4 h5=>one rest k deep n h1 h2 (by omega) h4 h5⟩
  intro must t rest k deep n hm ht1 ht4 ht hr hd hk hn
  have hkk:∀j:Nat,t+j≤4→((t+j:Nat):Int)=eff e must→∃m,10 * rest.length+1≤m∧sLp n w k t deep=e3_ m w t deep e (some (k+(wds e must).length)):=by
   intro j
   induction j generalizing t n with
   |zero=>
    intro _ hef
    rcases (ar_ h).2 with⟨k1,_⟩|⟨k1,_⟩|⟨k1,h1,h2,h3,h4,h5⟩|⟨k1,_⟩
    ·unfold eff at hef;rw[if_neg (by omega)]at hef;omega
    ·unfold eff at hef;rw[if_neg (by omega)]at hef;omega
    ·unfold eff at hef
     by_cases hb:ap_ e.s<must
     ·rw[if_neg (by omega)]at hef;omega
     ·rw[if_pos ⟨k1,hb⟩]at hef
      exact two must t rest k deep n k1 hb (by omega) ht1 hr (by omega) hk hn
    ·unfold eff at hef;rw[if_neg (by omega)]at hef;omega
   |succ j ih=>
    intro h4 hef
    obtain⟨n,rfl⟩:∃n',n=n'+1:=⟨n - 1,by omega⟩
    by_cases h34:t=3
    ·subst h34
     obtain⟨n,rfl⟩:∃n',n=n'+1:=⟨n - 1,by omega⟩
     obtain⟨m,q1,q2⟩:=jn_ must rest k deep n hm (by omega) hd hk (by omega)
     obtain⟨m,rfl⟩:∃m',m=m'+1:=⟨m - 1,by omega⟩
     refine⟨n+1,by omega,?_⟩
     have e4:sLp (n+1) w k (3+1) deep=(e,some (k+(wds e must).length)):=by
      simp only[sLp];rw[if_pos (by omega),q2,ad6_ (ds_ hk) hr.1]
     rw[sLp,if_neg (by omega),e4]
    ·obtain⟨m,q1,q2⟩:=ih (t+1) n (by omega) (by omega) (by omega) ⟨hr.1,fun w hw=>by have:=hr.2 w hw;omega⟩ (by omega) (by omega) (by omega)
     obtain⟨m,rfl⟩:∃m',m=m'+1:=⟨m - 1,by omega⟩
     refine⟨n,by omega,?_⟩
     rw[eo_ (fz_ (P:=fun x=>x≠((t+1:Nat):Int)) (ds_ hk) (by omega) fun x hx=>by have:=hr.2 x hx;omega)]at q2
     rw[sLp,if_neg (by omega),q2]
  have heff:=ag7_ (must:=must) h
  exact hkk (eff e must - t).toNat (by omega) (by omega)
theorem ayg_ {e:E} (h:eok e=true) (hl:(wds e 1).length≤40) {n:Nat} (hn:410≤n):sL1 n (wds e 1) 0 5=(e,some (wds e 1).length):=by
 have A:=me_ (wds e 1) 5 e (ay_ h)
 have hk:(wds e 1).drop 0=wds e 1++[]:=by simp
 obtain⟨n,rfl⟩:∃n',n=n'+1:=⟨n - 1,by omega⟩
 by_cases he:2≤eff e 1
 ·obtain⟨m,q1,q2⟩:=A.2.1 1 2 [] 0 5 n (by omega) (by omega) (by omega) he ⟨by simp,fun w hw=>by simp at hw⟩ (by omega) hk (by simp;omega)
  obtain⟨m,rfl⟩:∃m',m=m'+1:=⟨m - 1,by omega⟩
  rw[eo_ (fz_ (P:=fun x=>x≠((2:Nat):Int)) (ds_ hk) (by omega) fun x hx=>by simp at hx)]at q2
  have hlt:(wds e 1).getD (0+(wds e 1).length) []≠[60]:=by rw[zi_ (ds_ hk)];decide
  rw[Nat.zero_add]at q2 hlt
  simp only[sL1,q2,hlt,if_false]
 ·have k3:e.kind=3∧¬ap_ e.s<1:=by unfold eff at he;by_cases hh:e.kind=3∧¬ap_ e.s<1;exact hh;rw[if_neg hh]at he;omega
  have:=A.2.2 [] 0 5 (n+1) k3.1 ⟨by simp,fun w hw=>by simp at hw⟩ (by omega) (by rw[fa_ (ay_ h)];exact hk) (by rw[fa_ (ay_ h)];simp;omega)
  rw[fa_ (ay_ h)]at this;rw[this];simp
end
section
def marks:Str:=[43,45,42,60,40,41,58,61]
def fi_ (s:Str):Bool:=s.length==1&&marks.contains (s.headD 0)
def cu_ (s:Str):Int:=if ev_ s then 1 else if bd_ s then 2 else if fi_ s then 3 else 0
structure Tk where
 kind:Int
 s:Str
 col:Int
def d2_ (l:Str):Nat:=max 1 (max (l.takeWhile ch_).length (l.takeWhile b1_).length)
def fk_:Nat→Str→Int→Option (List Tk)
 |0,_,_=>some []
 |_+1,[],_=>some []
 |n+1,c::l,col=>
  if c=32 then fk_ n l (col+1)
  else if cu_ ((c::l).take (d2_ (c::l)))=0 then none
  else(fk_ n ((c::l).drop (d2_ (c::l))) (col+d2_ (c::l))).map (⟨cu_ ((c::l).take (d2_ (c::l))),(c::l).take (d2_ (c::l)),col⟩::·)
def a1_ (l:Str):Option (List Tk):=if 120<l.length then none else fk_ l.length l 0
theorem qb_ (l:Str):1≤d2_ l:=by unfold d2_;omega
theorem av6_ (p:UInt8→Bool) (l:Str):(l.takeWhile p).length≤l.length:=(List.takeWhile_prefix p).length_le
theorem asz_ {l:Str} (h:l≠[]):d2_ l≤l.length:=by
 have h1:=av6_ ch_ l
 have h2:=av6_ b1_ l
 have h3:=List.length_pos_iff.2 h
 unfold d2_;omega
theorem qs_:∀(n m:Nat) (l:Str) (col:Int),l.length≤n→l.length≤m→fk_ n l col=fk_ m l col
 |0,m,l,col,hn,hm=>by
  have:l=[]:=List.eq_nil_of_length_eq_zero (by omega)
  subst this
  cases m<;>rfl
 |n+1,0,l,col,hn,hm=>by
  have:l=[]:=List.eq_nil_of_length_eq_zero (by omega)
  subst this
  rfl
 |n+1,m+1,[],col,_,_=>rfl
 |n+1,m+1,c::l,col,hn,hm=>by
  simp only[T7_]at hn hm
  have h1:=qb_ (c::l)
  simp only[fk_]
  rw[qs_ n m l (col+1) (by omega) (by omega),qs_ n m ((c::l).drop (d2_ (c::l))) _ (by simp;omega) (by simp;omega)]
theorem m4_ (c:UInt8) (l:Str) (col:Int):fk_ (c::l).length (c::l) col =
  if c=32 then fk_ l.length l (col+1)
  else if cu_ ((c::l).take (d2_ (c::l)))=0 then none
  else(fk_ ((c::l).drop (d2_ (c::l))).length ((c::l).drop (d2_ (c::l))) (col+d2_ (c::l))).map (⟨cu_ ((c::l).take (d2_ (c::l))),(c::l).take (d2_ (c::l)),col⟩::·):=by
 have h1:=qb_ (c::l)
 have h2:=qs_ l.length ((c::l).drop (d2_ (c::l))).length ((c::l).drop (d2_ (c::l))) (col+d2_ (c::l)) (by simp;omega) (Nat.le_refl _)
 simp only[T7_,fk_]
 rw[h2]
def tkOf:Int→List Str→List Tk
 |_,[]=>[]
 |c,w::r=>⟨cu_ w,w,c⟩::tkOf (c+w.length+1) r
def b3_:Int→List Str→List Int
 |_,[]=>[]
 |c,w::r=>c::b3_ (c+w.length+1) r
theorem rt_:∀(c:Int) (l:List Str),(tkOf c l).map (·.s)=l
 |_,[]=>rfl
 |c,w::r=>by simp only[tkOf,List.map_cons,rt_]
def d3_ (w:Str):Prop:=cu_ w≠0
theorem ar5_ {p:UInt8→Bool} {w r:Str} (h:w.all p=true) (hr:∀c,r.head? = some c→p c=false):(w++r).takeWhile p=w:=by
 induction w with
 |nil=>
  cases r with
  |nil=>rfl
  |cons c r=>simp[List.takeWhile,hr c rfl]
 |cons c w ih=>
  simp only[List.all_cons,T5_]at h
  simp[List.takeWhile,h.1,ih h.2]
theorem nt_ {p:UInt8→Bool} {c:UInt8} {l:Str} (h:p c=false):(c::l).takeWhile p=[]:=by simp[List.takeWhile,h]
theorem ia_ {c:UInt8} (h:ch_ c=true):b1_ c=false:=by
 rw[Bool.eq_false_iff];intro h2
 simp only[ch_,b1_,T5_,T3_]at h h2;omega
theorem sx_ {c:UInt8} (h:b1_ c=true):ch_ c=false:=by
 rw[Bool.eq_false_iff];intro h2
 simp only[ch_,b1_,T5_,T3_]at h h2;omega
theorem nw_ {w:Str} (h:d3_ w):(w≠[]∧w.all ch_=true)∨(w≠[]∧w.all b1_=true)∨(∃c,w=[c]∧ch_ c=false∧b1_ c=false∧c≠32):=by
 unfold d3_ cu_ at h
 by_cases h1:ev_ w=true
 ·left
  simp only[ev_,T5_,T3_]at h1
  exact⟨fun e=>by subst e;simp at h1,h1.1.1⟩
 rw[if_neg h1]at h
 by_cases h2:bd_ w=true
 ·right;left
  obtain⟨n,hn,rfl⟩:=dn_.1 h2
  exact⟨fc_ n,List.all_eq_true.2 fun c hc=>(mz_ c).2 (da_ n c hc)⟩
 rw[if_neg h2]at h
 by_cases h3:fi_ w=true
 ·right;right
  simp only[fi_,T5_,beq_iff_eq]at h3
  match w,h3 with
  |[c],h3=>
   have h4:=h3.2
   refine⟨c,rfl,?_⟩
   simp[marks]at h4
   rcases h4 with h4|h4|h4|h4|h4|h4|h4|h4<;>subst h4<;>decide
 ·rw[if_neg h3]at h;exact absurd rfl h
theorem adw_ {w:Str} (h:d3_ w):w≠[]:=by
 rcases nw_ h with h|h|⟨c,rfl,_⟩
 ·exact h.1
 ·exact h.1
 ·simp
theorem wi_ {c:UInt8} {w:Str} (h:d3_ (c::w)):c≠32:=by
 rcases nw_ h with h|h|⟨d,e,h1,h2,h3⟩
 ·intro e;subst e;have:=h.2;simp[ch_]at this
 ·intro e;subst e;have:=h.2;simp[b1_]at this
 ·injection e with e1 e2;subst e1;exact h3
theorem y8_ {w r:Str} (h:d3_ w) (hr:r=[]∨∃r',r=32::r'):d2_ (w++r)=w.length:=by
 have hl:∀c,r.head? = some c→ch_ c=false:=fun c hc=>by
  rcases hr with rfl|⟨r',rfl⟩
  ·simp at hc
  ·simp at hc;subst hc;decide
 have hd:∀c,r.head? = some c→b1_ c=false:=fun c hc=>by
  rcases hr with rfl|⟨r',rfl⟩
  ·simp at hc
  ·simp at hc;subst hc;decide
 unfold d2_
 rcases nw_ h with h|h|⟨c,rfl,h1,h2,h3⟩
 ·rw[ar5_ h.2 hl]
  cases w with
  |nil=>exact absurd rfl h.1
  |cons c w=>
   have:=h.2
   simp only[List.all_cons,T5_]at this
   rw[List.cons_append,nt_ (ia_ this.1)];simp
 ·rw[ar5_ h.2 hd]
  cases w with
  |nil=>exact absurd rfl h.1
  |cons c w=>
   have:=h.2
   simp only[List.all_cons,T5_]at this
   rw[List.cons_append,nt_ (sx_ this.1)];simp
 ·rw[List.cons_append,nt_ h1,nt_ h2];rfl
theorem ur_:∀(l:List Str) (col:Int),(∀w∈l,d3_ w)→fk_ (ax_ l).length (ax_ l) col=some (tkOf col l)
 |[],col,_=>rfl
 |[w],col,h=>by
  have hw:=h w (by simp)
  rw[em_]
  have hl:=y8_ (r:=[]) hw (.inl rfl)
  rw[List.append_nil]at hl
  cases hc:w with
  |nil=>exact absurd hc (adw_ hw)
  |cons c v=>
   rw[←hc,show w.length=(c::v).length by rw[hc],hc,m4_,←hc,hl]
   have:c≠32:=wi_ (by rw[←hc];exact hw)
   rw[if_neg this,List.take_length,if_neg hw,List.drop_length]
   rfl
 |w::x::l,col,h=>by
  have hw:=h w (by simp)
  have ih:=ur_ (x::l) (col+w.length+1) (fun y hy=>h y (by simp[hy]))
  rw[d8_]
  have hl:=y8_ (r:=32::ax_ (x::l)) hw (.inr ⟨_,rfl⟩)
  cases hc:w with
  |nil=>exact absurd hc (adw_ hw)
  |cons c v=>
   have h32:c≠32:=wi_ (by rw[←hc];exact hw)
   have e1:c::v++32::ax_ (x::l)=c::(v++32::ax_ (x::l)):=rfl
   have e2:c::(v++32::ax_ (x::l))=w++32::ax_ (x::l):=by rw[hc];rfl
   rw[e1,m4_,if_neg h32,e2,hl,List.take_left,List.drop_left,if_neg hw,m4_,if_pos rfl,ih,←hc]
   rfl
theorem ne_ {l:List Str} (h:∀w∈l,d3_ w) (hl:(ax_ l).length≤120):a1_ (ax_ l)=some (tkOf 0 l):=by
 unfold a1_;rw[if_neg (by omega)];exact ur_ l 0 h
theorem up_ {s:Str} (h:gw_ s=true):d3_ s:=by
 simp only[gw_,T5_]at h
 unfold d3_ cu_;rw[if_pos h.1];decide
theorem ak5_ {n:Nat} (h:n≤1000000):d3_ (Go.Lib.decDigits n):=by
 unfold d3_ cu_
 split
 ·decide
 ·rw[if_pos (mm_ h).1];decide
theorem i8_ {s:Str} (h:fi_ s=true):d3_ s:=by
 unfold d3_ cu_
 split
 ·decide
 ·split
  ·decide
  ·try rw[if_pos h]
   decide
theorem d6_ {s:Str} (h:ev_ s=true):d3_ s:=by unfold d3_ cu_;rw[if_pos h];decide
theorem apm_ {s:Str} (h:fm_ s=true):d3_ s:=by
 simp only[fm_,Bool.or_eq_true,beq_iff_eq]at h;rcases h with((h|h)|h)|h<;>subst h<;>exact i8_ (by decide)
theorem w8_ {s:Str} (h:fe_ s=true):d3_ s:=by
 simp only[fe_,Bool.or_eq_true,beq_iff_eq]at h;rcases h with h|h<;>subst h<;>exact d6_ (by decide)
theorem d0_:∀(d:Nat) (e:E) (must:Int),form e d=true→∀s∈wds e must,d3_ s
 |0,e,must,h=>by have:=(ar_ h).1;omega
 |d+1,e,must,h=>by
  have e1:((d+1:Nat):Int) - 1=(d:Int):=by omega
  intro s hs
  rcases (ar_ h).2 with⟨k1,h1,h2,h3,h4⟩|⟨k1,h1,h2,h3⟩|⟨k1,h1,h2,h3,h4,h5⟩|⟨k1,h1,h2,h3,h4⟩
  ·rw[dp_ k1]at hs;simp at hs;subst hs;exact ak5_ (by omega)
  ·rw[cs_ k1]at hs;simp at hs;subst hs;exact up_ h2
  ·rw[e1]at h4 h5
   rw[d7_ k1 h3]at hs
   have A:=d0_ d _ (max 2 (ap_ e.s)) h4
   have B:=d0_ d _ (ap_ e.s+1) h5
   have key:s∈wds (e.kids.getD 0 E0) (max 2 (ap_ e.s))++[e.s]++wds (e.kids.getD 1 E0) (ap_ e.s+1)→d3_ s:=fun hs=>by
    simp only[List.mem_append,List.mem_singleton]at hs
    rcases hs with(hs|hs)|hs
    ·exact A s hs
    ·rw[hs];exact apm_ h2
    ·exact B s hs
   split at hs
   ·rcases List.mem_append.1 hs with hs|hs
    ·rcases List.mem_append.1 hs with hs|hs
     ·simp at hs;subst hs;exact i8_ (by decide)
     ·exact key hs
    ·simp at hs;subst hs;exact i8_ (by decide)
   ·exact key hs
  ·rw[e1]at h4
   rw[iz_ k1 h3]at hs
   simp only[List.mem_append,List.mem_cons,List.not_mem_nil,or_false]at hs
   rcases hs with hs|hs|hs
   ·exact d0_ d _ 4 h4 s hs
   ·subst hs;exact d6_ (by decide)
   ·subst hs;exact w8_ h2
end
section
def ej_ (w:List Str):Option E:=
 if w.length≤40 then
  (if ((b5_ 500 1 ⟨w,false,0⟩).2.bad||!(b5_ 500 1 ⟨w,false,0⟩).2.left.isEmpty||!eok (b5_ 500 1 ⟨w,false,0⟩).1||!(wds (b5_ 500 1 ⟨w,false,0⟩).1 1==w))then none else some (b5_ 500 1 ⟨w,false,0⟩).1)
 else none
def zv_ (w:List Str):Option E:=
 if w.length≤40 then
  (if (!((sL1 500 w 0 5).2==some w.length)||!eok (sL1 500 w 0 5).1||!(wds (sL1 500 w 0 5).1 1==w))then none else some (sL1 500 w 0 5).1)
 else none
theorem m1_ {w:List Str} {e:E}:ej_ w=some e↔eok e=true∧wds e 1=w:=by
 unfold ej_
 constructor
 ·intro h
  split at h
  ·split at h
   ·cases h
   ·rename_i hh
    simp only[Option.some.injEq]at h
    subst h
    simp only[Bool.or_eq_true,Bool.not_eq_true',not_or,Bool.not_eq_true,Bool.not_eq_false,beq_eq_false_iff_ne,ne_eq,Decidable.not_not]at hh
    exact⟨hh.1.2,hh.2⟩
  ·cases h
 ·rintro⟨h1,rfl⟩
  have:=(bk_ h1 1).2.1
  obtain⟨d,hd⟩:=axd_ h1 (by omega) (n:=500) (by omega)
  rw[if_pos (by omega),hd]
  simp[h1]
theorem ud_ {w:List Str} {e:E}:zv_ w=some e↔eok e=true∧wds e 1=w:=by
 unfold zv_
 constructor
 ·intro h
  split at h
  ·split at h
   ·cases h
   ·rename_i hh
    simp only[Option.some.injEq]at h
    subst h
    simp only[Bool.or_eq_true,Bool.not_eq_true',not_or,Bool.not_eq_true,Bool.not_eq_false,beq_eq_false_iff_ne,ne_eq,Decidable.not_not]at hh
    exact⟨hh.1.2,hh.2⟩
  ·cases h
 ·rintro⟨h1,rfl⟩
  have:=(bk_ h1 1).2.1
  have hd:=ayg_ h1 (by omega) (n:=500) (by omega)
  rw[if_pos (by omega),hd]
  simp[h1]
theorem anz_ (w:List Str):ej_ w=zv_ w:=by
 cases h:zv_ w with
 |some e=>rw[m1_,←ud_,h]
 |none=>
  cases h2:ej_ w with
  |none=>rfl
  |some e=>rw[m1_,←ud_,h]at h2;cases h2
theorem oq_:∀(d:Nat) (e:E) (must:Int),form e d=true→∀s∈wds e must,s≠bp_∧s≠bz_∧s≠bi_∧s≠wIf∧s≠dg_∧s≠jm_∧s≠wEq
 |0,e,must,h=>by have:=(ar_ h).1;omega
 |d+1,e,must,h=>by
  have e1:((d+1:Nat):Int) - 1=(d:Int):=by omega
  intro s hs
  rcases (ar_ h).2 with⟨k1,h1,h2,h3,h4⟩|⟨k1,h1,h2,h3⟩|⟨k1,h1,h2,h3,h4,h5⟩|⟨k1,h1,h2,h3,h4⟩
  ·rw[dp_ k1]at hs;simp at hs;subst hs
   have hd:=da_ e.n.toNat
   have hne:=fc_ e.n.toNat
   have key:∀c r,¬gf_ c→Go.Lib.decDigits e.n.toNat≠c::r:=fun c r hc he=>hc (hd c (by rw[he];simp))
   refine⟨key _ _ ?_,key _ _ ?_,key _ _ ?_,key _ _ ?_,key _ _ ?_,key _ _ ?_,key _ _ ?_⟩<;>unfold gf_<;>decide
  ·rw[cs_ k1]at hs;simp at hs;subst hs
   simp only[gw_,jn_,T5_,Bool.not_eq_true',Bool.or_eq_false_iff,beq_eq_false_iff_ne,ne_eq]at h2
   obtain⟨hw,hh⟩:=h2
   refine⟨fun e=>hh.1.1.1.1.1.2 e,fun e=>?_,fun e=>hh.1.1.2 e,fun e=>hh.1.2 e,fun e=>hh.1.1.1.1.2 e,fun e=>hh.1.1.1.1.1.1 e,fun e=>?_⟩<;>rw[e]at hw<;>exact absurd hw (by decide)
  ·rw[e1]at h4 h5
   rw[d7_ k1 h3]at hs
   have A:=oq_ d _ (max 2 (ap_ e.s)) h4
   have B:=oq_ d _ (ap_ e.s+1) h5
   have key:s∈wds (e.kids.getD 0 E0) (max 2 (ap_ e.s))++[e.s]++wds (e.kids.getD 1 E0) (ap_ e.s+1)→s≠bp_∧s≠bz_∧s≠bi_∧s≠wIf∧s≠dg_∧s≠jm_∧s≠wEq:=fun hs=>by
    simp only[List.mem_append,List.mem_singleton]at hs
    rcases hs with(hs|hs)|hs
    ·exact A s hs
    ·rw[hs]
     simp only[fm_,Bool.or_eq_true,beq_iff_eq]at h2;rcases h2 with((h|h)|h)|h<;>rw[h]<;>decide
    ·exact B s hs
   split at hs
   ·rcases List.mem_append.1 hs with hs|hs
    ·rcases List.mem_append.1 hs with hs|hs
     ·simp at hs;subst hs;decide
     ·exact key hs
    ·simp at hs;subst hs;decide
   ·exact key hs
  ·rw[e1]at h4
   rw[iz_ k1 h3]at hs
   simp only[List.mem_append,List.mem_cons,List.not_mem_nil,or_false]at hs
   rcases hs with hs|hs|hs
   ·exact oq_ d _ 4 h4 s hs
   ·subst hs;decide
   ·subst hs;simp only[fe_,Bool.or_eq_true,beq_iff_eq]at h2;rcases h2 with h|h<;>rw[h]<;>decide
theorem ae8_ {a b:List Str} {s:Str} (h:∀x∈a,x≠s):bj_ (a++s::b) s=a.length:=by
 unfold bj_
 rw[if_pos (by simp),List.idxOf_append,if_neg (fun hm=>h s hm rfl)]
 simp
def ex (w:List Str):E:=(ej_ w).getD E0
theorem fh_ {e:E} (h:eok e=true):ex (wds e 1)=e:=by unfold ex;rw[m1_.2 ⟨h,rfl⟩];rfl
def rdS (w:List Str):Sl:=
 if 5<w.length∧w.getD 0 []=jm_ then⟨1,w.getD 1 [],w.getD 3 [],ex (w.drop 5),E0⟩
 else if 0<w.length∧w.getD 0 []=bp_ then⟨2,[],[],ex (w.drop 1),E0⟩
 else if 0<w.length∧w.getD 0 []=dg_ then
  (if 0<bj_ w bp_ then⟨3,[],[],ex ((w.take (bj_ w bp_).toNat).drop 1),ex (w.drop ((bj_ w bp_).toNat+1))⟩else⟨3,[],[],E0,E0⟩)
 else S0
def ab5_ (s:Sl):Str:=ax_ (sw' s)
def sp_ (b:Bl):Str:=ax_ (bw b)
def ci_ (line:Str):Option Sl:=
 match a1_ line with
 |none=>none
 |some ts=>if sok (rdS (ts.map (·.s)))=true∧ab5_ (rdS (ts.map (·.s)))=line then some (rdS (ts.map (·.s)))else none
def e6_ (w:List Str):Sl × Bool:=
 if w.length=0 then(S0,true)
 else if w.getD 0 []=jm_∧5<w.length∧w.getD 2 []=bz_∧w.getD 4 []=wEq then(⟨1,w.getD 1 [],w.getD 3 [],ex (w.drop 5),E0⟩,(ej_ (w.drop 5)).isSome)
 else if w.getD 0 []=bp_ then(⟨2,[],[],ex (w.drop 1),E0⟩,(ej_ (w.drop 1)).isSome)
 else if w.getD 0 []=dg_∧0<bj_ w bp_ then
  (⟨3,[],[],ex ((w.take (bj_ w bp_).toNat).drop 1),ex (w.drop ((bj_ w bp_).toNat+1))⟩,(ej_ ((w.take (bj_ w bp_).toNat).drop 1)).isSome&&(ej_ (w.drop ((bj_ w bp_).toNat+1))).isSome)
 else(S0,false)
def nm_ (line:Str):Option Sl:=
 match a1_ line with
 |none=>none
 |some ts=>if (e6_ (ts.map (·.s))).2=true∧sok (e6_ (ts.map (·.s))).1=true∧ab5_ (e6_ (ts.map (·.s))).1=line then some (e6_ (ts.map (·.s))).1 else none
theorem o3_ {s:Sl} (h:sok s=true):(ax_ (sw' s)).length≤116∧
  (s=S0∨(s.kind=1∧gw_ s.name=true∧fe_ s.type=true∧eok s.expr=true∧s.thn=E0)∨(s.kind=2∧s.name=[]∧s.type=[]∧eok s.expr=true∧s.thn=E0)∨(s.kind=3∧s.name=[]∧s.type=[]∧eok s.expr=true∧eok s.thn=true)):=by
 simp only[sok,T5_,T3_]at h
 refine⟨h.2,?_⟩
 have h:=h.1
 unfold ca_ at h
 by_cases k0:s.kind=0
 ·simp[k0,c4_]at h
  left;cases s;simp_all[S0]
 by_cases k1:s.kind=1
 ·simp[k1,c4_]at h;exact .inr (.inl ⟨k1,h.1.1.1,h.1.1.2,h.1.2,h.2⟩)
 by_cases k2:s.kind=2
 ·simp[k2,c4_]at h;exact .inr (.inr (.inl ⟨k2,h.1.1.1,h.1.1.2,h.1.2,h.2⟩))
 by_cases k3:s.kind=3
 ·simp[k3]at h;exact .inr (.inr (.inr ⟨k3,h.1.1.1,h.1.1.2,h.1.2,h.2⟩))
 ·simp[k0,k1,k2,k3]at h
theorem j9_ {s:Bl} (h:bok s=true):(ax_ (bw s)).length≤120∧
  (s=B0∨(s.kind=1∧gw_ s.name=true∧pe s.expr=true∧s.thn=E0)∨(s.kind=2∧s.name=[]∧pe s.expr=true∧s.thn=E0)∨(s.kind=3∧s.name=[]∧pe s.expr=true∧pe s.thn=true)):=by
 simp only[bok,T5_,T3_]at h
 refine⟨h.2,?_⟩
 have h:=h.1
 unfold c0_ at h
 by_cases k0:s.kind=0
 ·simp[k0,c4_]at h
  left;cases s;simp_all[B0]
 by_cases k1:s.kind=1
 ·simp[k1,c4_]at h;exact .inr (.inl ⟨k1,h.1.1,h.1.2,h.2⟩)
 by_cases k2:s.kind=2
 ·simp[k2,c4_]at h;exact .inr (.inr (.inl ⟨k2,h.1.1,h.1.2,h.2⟩))
 by_cases k3:s.kind=3
 ·simp[k3]at h;exact .inr (.inr (.inr ⟨k3,h.1.1,h.1.2,h.2⟩))
 ·simp[k0,k1,k2,k3]at h
theorem yt_:d3_ bz_:=i8_ (by decide)
theorem ac4_:d3_ wEq:=i8_ (by decide)
theorem aqd_ {s:Sl} (h:sok s=true):∀w∈sw' s,d3_ w:=by
 obtain⟨_,h|⟨k,h1,h2,h3,h4⟩|⟨k,h1,h2,h3,h4⟩|⟨k,h1,h2,h3,h4⟩⟩:=o3_ h
 ·subst h;intro w hw;simp[sw',S0]at hw
 ·intro w hw
  simp only[sw',k,if_true,List.mem_cons]at hw
  rcases hw with rfl|rfl|rfl|rfl|rfl|hw
  ·exact d6_ (by decide)
  ·exact up_ h1
  ·exact yt_
  ·exact w8_ h2
  ·exact ac4_
  ·exact d0_ 5 _ 1 (ay_ h3) w hw
 ·intro w hw
  simp only[sw',k,show ¬(2:Int)=1 by omega,if_false,if_true,List.mem_cons]at hw
  rcases hw with rfl|hw
  ·exact d6_ (by decide)
  ·exact d0_ 5 _ 1 (ay_ h3) w hw
 ·intro w hw
  simp only[sw',k,show ¬(3:Int)=1 by omega,show ¬(3:Int)=2 by omega,if_false,if_true,List.mem_cons,List.mem_append]at hw
  rcases hw with(rfl|hw)|rfl|hw
  ·exact d6_ (by decide)
  ·exact d0_ 5 _ 1 (ay_ h3) w hw
  ·exact d6_ (by decide)
  ·exact d0_ 5 _ 1 (ay_ h4) w hw
theorem aco_ {s:Bl} (h:bok s=true):∀w∈bw s,d3_ w:=by
 obtain⟨_,h|⟨k,h1,h3,h4⟩|⟨k,h1,h3,h4⟩|⟨k,h1,h3,h4⟩⟩:=j9_ h
 ·subst h;intro w hw;simp[bw,B0]at hw
 ·intro w hw
  simp only[bw,k,if_true,List.mem_cons]at hw
  rcases hw with rfl|rfl|hw
  ·exact up_ h1
  ·exact ac4_
  ·exact d0_ 5 _ 1 (ay_ (cb_ h3)) w hw
 ·intro w hw
  simp only[bw,k,show ¬(2:Int)=1 by omega,if_false,if_true,List.mem_cons]at hw
  rcases hw with rfl|hw
  ·exact d6_ (by decide)
  ·exact d0_ 5 _ 1 (ay_ (cb_ h3)) w hw
 ·intro w hw
  simp only[bw,k,show ¬(3:Int)=1 by omega,show ¬(3:Int)=2 by omega,if_false,if_true,List.mem_cons,List.mem_append]at hw
  rcases hw with(rfl|hw)|rfl|rfl|hw
  ·exact d6_ (by decide)
  ·exact d0_ 5 _ 1 (ay_ (cb_ h3)) w hw
  ·exact yt_
  ·exact d6_ (by decide)
  ·exact d0_ 5 _ 1 (ay_ (cb_ h4)) w hw
theorem xw_ {s:Sl} (h:sok s=true):a1_ (ab5_ s)=some (tkOf 0 (sw' s)):=ne_ (aqd_ h) (by have:=(o3_ h).1;omega)
theorem q8_ {s:Bl} (h:bok s=true):a1_ (sp_ s)=some (tkOf 0 (bw s)):=ne_ (aco_ h) (j9_ h).1
theorem y0_ {e:E} {d:Nat} {r:List Str} (h:form e d=true) (must:Int):bj_ (dg_::wds e must++bp_::r) bp_=(wds e must).length+1:=by
 rw[ae8_]
 ·simp
 ·intro x hx
  rcases List.mem_cons.1 hx with rfl|hx
  ·decide
  ·exact(oq_ d e must h x hx).1
theorem aia_ {e:E} {d:Nat} {r:List Str} (h:form e d=true) (must:Int):bj_ (wIf::wds e must++bz_::r) bz_=(wds e must).length+1:=by
 rw[ae8_]
 ·simp
 ·intro x hx
  rcases List.mem_cons.1 hx with rfl|hx
  ·decide
  ·exact(oq_ d e must h x hx).2.1
theorem hv_ {e:E} (h:eok e=true):ej_ (wds e 1)=some e:=m1_.2 ⟨h,rfl⟩
theorem cut1 {a:Str} {l r:List Str} {x:Str}:((a::l++x::r).take (l.length+1)).drop 1=l:=by simp
theorem cut2 {a:Str} {l r:List Str} {x:Str}:(a::l++x::r).drop (l.length+1+1)=r:=by simp
theorem cut3 {a:Str} {l r:List Str} {x y:Str}:(a::l++x::y::r).drop (l.length+1+2)=r:=by simp[List.drop_append]
theorem ayy_ {s:Sl} (h:sok s=true):rdS (sw' s)=s:=by
 obtain⟨_,h|⟨k,h1,h2,h3,h4⟩|⟨k,h1,h2,h3,h4⟩|⟨k,h1,h2,h3,h4⟩⟩:=o3_ h
 ·subst h;rfl
 ·have hw:sw' s=jm_::s.name::bz_::s.type::wEq::wds s.expr 1:=by simp only[sw',k,if_true]
  have:=(bk_ h3 1).1
  rw[hw,rdS,if_pos ⟨by simp;omega,rfl⟩]
  simp only[List.getD_cons_succ,List.getD_cons_zero,List.drop_succ_cons,List.drop_zero,fh_ h3]
  cases s;simp_all
 ·have hw:sw' s=bp_::wds s.expr 1:=by simp[sw',k]
  rw[hw,rdS,if_neg (fun hh=>absurd (show bp_=jm_ from hh.2) (by decide)),if_pos ⟨by simp,rfl⟩]
  simp only[List.drop_succ_cons,List.drop_zero,fh_ h3]
  cases s;simp_all
 ·have hw:sw' s=dg_::wds s.expr 1++bp_::wds s.thn 1:=by simp[sw',k]
  rw[hw,rdS,if_neg (fun hh=>absurd (show dg_=jm_ from hh.2) (by decide)),if_neg (fun hh=>absurd (show dg_=bp_ from hh.2) (by decide)),if_pos ⟨by simp,rfl⟩,y0_ (ay_ h3) 1,if_pos (by omega),
   show((wds s.expr 1).length+1:Int).toNat=(wds s.expr 1).length+1 by omega,cut1,cut2,fh_ h3,fh_ h4]
  cases s;simp_all
theorem at5_ {s:Sl} (h:sok s=true):e6_ (sw' s)=(s,true):=by
 obtain⟨_,h|⟨k,h1,h2,h3,h4⟩|⟨k,h1,h2,h3,h4⟩|⟨k,h1,h2,h3,h4⟩⟩:=o3_ h
 ·subst h;rfl
 ·have hw:sw' s=jm_::s.name::bz_::s.type::wEq::wds s.expr 1:=by simp only[sw',k,if_true]
  have:=(bk_ h3 1).1
  rw[hw,e6_,if_neg (by simp),if_pos ⟨rfl,by simp;omega,rfl,rfl⟩]
  simp only[List.getD_cons_succ,List.getD_cons_zero,List.drop_succ_cons,List.drop_zero,fh_ h3,hv_ h3]
  cases s;simp_all
 ·have hw:sw' s=bp_::wds s.expr 1:=by simp[sw',k]
  rw[hw,e6_,if_neg (by simp),if_neg (fun hh=>absurd (show bp_=jm_ from hh.1) (by decide)),if_pos (show(bp_::wds s.expr 1).getD 0 []=bp_ from rfl)]
  simp only[List.drop_succ_cons,List.drop_zero,fh_ h3,hv_ h3]
  cases s;simp_all
 ·have hw:sw' s=dg_::wds s.expr 1++bp_::wds s.thn 1:=by simp[sw',k]
  rw[hw,e6_,if_neg (by simp),if_neg (fun hh=>absurd (show dg_=jm_ from hh.1) (by decide)),if_neg (show ¬(dg_::wds s.expr 1++bp_::wds s.thn 1).getD 0 []=bp_ from fun hh=>absurd (show dg_=bp_ from hh) (by decide)),y0_ (ay_ h3) 1,if_pos ⟨rfl,by omega⟩,
   show((wds s.expr 1).length+1:Int).toNat=(wds s.expr 1).length+1 by omega,cut1,cut2,fh_ h3,fh_ h4,hv_ h3,hv_ h4]
  cases s;simp_all
theorem qo_ {line:Str} {s:Sl}:ci_ line=some s↔sok s=true∧ab5_ s=line:=by
 unfold ci_
 constructor
 ·intro h
  split at h
  ·cases h
  ·split at h
   ·rename_i hh;cases h;exact hh
   ·cases h
 ·rintro⟨h1,rfl⟩
  rw[xw_ h1]
  simp only[rt_,ayy_ h1,h1,and_self,if_true]
theorem agz_ {line:Str} {s:Sl}:nm_ line=some s↔sok s=true∧ab5_ s=line:=by
 unfold nm_
 constructor
 ·intro h
  split at h
  ·cases h
  ·split at h
   ·rename_i hh;cases h;exact hh.2
   ·cases h
 ·rintro⟨h1,rfl⟩
  rw[xw_ h1]
  simp only[rt_,at5_ h1,h1,and_self,if_true]
theorem ai7_ {α:Type} {x y:Option α} (h:∀a,x=some a↔y=some a):x=y:=by
 cases x with
 |some a=>exact((h a).1 rfl).symm
 |none=>
  cases y with
  |none=>rfl
  |some b=>exact(h b).2 rfl
theorem aol_ (line:Str):ci_ line=nm_ line:=ai7_ fun s=>by rw[qo_,agz_]
def ge_ (w:List Str):Bl:=
 if 0<w.length∧w.getD 0 []=bi_ then⟨2,[],ex (w.drop 1),E0⟩
 else if 0<w.length∧w.getD 0 []=wIf then
  (if 0<bj_ w bz_∧bj_ w bz_+2≤w.length then⟨3,[],ex ((w.take (bj_ w bz_).toNat).drop 1),ex (w.drop ((bj_ w bz_).toNat+2))⟩else⟨3,[],E0,E0⟩)
 else if 2<w.length then⟨1,w.getD 0 [],ex (w.drop 2),E0⟩
 else B0
def e2_ (line:Str):Option Bl:=
 match a1_ line with
 |none=>none
 |some ts=>if bok (ge_ (ts.map (·.s)))=true∧sp_ (ge_ (ts.map (·.s)))=line then some (ge_ (ts.map (·.s)))else none
def e5_ (w:List Str):Bl × Bool:=
 if w.length=0 then(B0,true)
 else if w.getD 0 []=bi_ then(⟨2,[],ex (w.drop 1),E0⟩,(ej_ (w.drop 1)).isSome)
 else if w.getD 0 []=wIf∧0<bj_ w bz_∧w.getD ((bj_ w bz_).toNat+1) []=bi_ then
  (⟨3,[],ex ((w.take (bj_ w bz_).toNat).drop 1),ex (w.drop ((bj_ w bz_).toNat+2))⟩,(ej_ ((w.take (bj_ w bz_).toNat).drop 1)).isSome&&(ej_ (w.drop ((bj_ w bz_).toNat+2))).isSome)
 else if w.getD 1 []=wEq then(⟨1,w.getD 0 [],ex (w.drop 2),E0⟩,(ej_ (w.drop 2)).isSome)
 else(B0,false)
def nr_ (line:Str):Option Bl:=
 match a1_ line with
 |none=>none
 |some ts=>if (e5_ (ts.map (·.s))).2=true∧bok (e5_ (ts.map (·.s))).1=true∧sp_ (e5_ (ts.map (·.s))).1=line then some (e5_ (ts.map (·.s))).1 else none
theorem aih_ {s:Str} (h:gw_ s=true):s≠bi_∧s≠wIf∧s≠bp_∧s≠jm_∧s≠dg_:=by
 simp only[gw_,jn_,T5_,Bool.not_eq_true',Bool.or_eq_false_iff,beq_eq_false_iff_ne,ne_eq]at h
 obtain⟨_,hh⟩:=h
 exact⟨fun e=>hh.1.1.2 e,fun e=>hh.1.2 e,fun e=>hh.1.1.1.1.1.2 e,fun e=>hh.1.1.1.1.1.1 e,fun e=>hh.1.1.1.1.2 e⟩
theorem asg_ {s:Bl} (h:bok s=true):ge_ (bw s)=s:=by
 obtain⟨_,h|⟨k,h1,h3,h4⟩|⟨k,h1,h3,h4⟩|⟨k,h1,h3,h4⟩⟩:=j9_ h
 ·subst h;rfl
 ·have hw:bw s=s.name::wEq::wds s.expr 1:=by simp only[bw,k,if_true]
  have:=(bk_ (cb_ h3) 1).1
  have hh:=aih_ h1
  rw[hw,ge_,if_neg (fun h=>hh.1 h.2),if_neg (fun h=>hh.2.1 h.2),if_pos (by simp;omega)]
  simp only[List.getD_cons_succ,List.getD_cons_zero,List.drop_succ_cons,List.drop_zero,fh_ (cb_ h3)]
  cases s;simp_all
 ·have hw:bw s=bi_::wds s.expr 1:=by simp[bw,k]
  rw[hw,ge_,if_pos ⟨by simp,rfl⟩]
  simp only[List.drop_succ_cons,List.drop_zero,fh_ (cb_ h3)]
  cases s;simp_all
 ·have hw:bw s=wIf::wds s.expr 1++bz_::bi_::wds s.thn 1:=by simp[bw,k]
  rw[hw,ge_,if_neg (fun hh=>absurd (show wIf=bi_ from hh.2) (by decide)),if_pos ⟨by simp,rfl⟩,aia_ (ay_ (cb_ h3)) 1,if_pos ⟨by omega,by simp;omega⟩,
   show((wds s.expr 1).length+1:Int).toNat=(wds s.expr 1).length+1 by omega,cut1,cut3,fh_ (cb_ h3),fh_ (cb_ h4)]
  cases s;simp_all
theorem an7_ {a:Str} {l r:List Str} {x y:Str}:(a::l++x::y::r).getD (l.length+1+1) []=y:=by
 simp[T8_]
theorem atv_ {s:Bl} (h:bok s=true):e5_ (bw s)=(s,true):=by
 obtain⟨_,h|⟨k,h1,h3,h4⟩|⟨k,h1,h3,h4⟩|⟨k,h1,h3,h4⟩⟩:=j9_ h
 ·subst h;rfl
 ·have hw:bw s=s.name::wEq::wds s.expr 1:=by simp only[bw,k,if_true]
  have hh:=aih_ h1
  rw[hw,e5_,if_neg (by simp),if_neg (show ¬(s.name::wEq::wds s.expr 1).getD 0 []=bi_ from hh.1),if_neg (fun h=>hh.2.1 h.1),if_pos (show(s.name::wEq::wds s.expr 1).getD 1 []=wEq from rfl)]
  simp only[List.getD_cons_succ,List.getD_cons_zero,List.drop_succ_cons,List.drop_zero,fh_ (cb_ h3),hv_ (cb_ h3)]
  cases s;simp_all
 ·have hw:bw s=bi_::wds s.expr 1:=by simp[bw,k]
  rw[hw,e5_,if_neg (by simp),if_pos (show(bi_::wds s.expr 1).getD 0 []=bi_ from rfl)]
  simp only[List.drop_succ_cons,List.drop_zero,fh_ (cb_ h3),hv_ (cb_ h3)]
  cases s;simp_all
 ·have hw:bw s=wIf::wds s.expr 1++bz_::bi_::wds s.thn 1:=by simp[bw,k]
  rw[hw,e5_,if_neg (by simp),if_neg (show ¬(wIf::wds s.expr 1++bz_::bi_::wds s.thn 1).getD 0 []=bi_ from fun hh=>absurd (show wIf=bi_ from hh) (by decide)),aia_ (ay_ (cb_ h3)) 1,
   show((wds s.expr 1).length+1:Int).toNat=(wds s.expr 1).length+1 by omega,if_pos ⟨rfl,by omega,an7_⟩,cut1,cut3,fh_ (cb_ h3),fh_ (cb_ h4),hv_ (cb_ h3),hv_ (cb_ h4)]
  cases s;simp_all
theorem amc_ {line:Str} {s:Bl}:e2_ line=some s↔bok s=true∧sp_ s=line:=by
 unfold e2_
 constructor
 ·intro h
  split at h
  ·cases h
  ·split at h
   ·rename_i hh;cases h;exact hh
   ·cases h
 ·rintro⟨h1,rfl⟩
  rw[q8_ h1]
  simp only[rt_,asg_ h1,h1,and_self,if_true]
theorem ahk_ {line:Str} {s:Bl}:nr_ line=some s↔bok s=true∧sp_ s=line:=by
 unfold nr_
 constructor
 ·intro h
  split at h
  ·cases h
  ·split at h
   ·rename_i hh;cases h;exact hh.2
   ·cases h
 ·rintro⟨h1,rfl⟩
  rw[q8_ h1]
  simp only[rt_,atv_ h1,h1,and_self,if_true]
theorem am9_ (line:Str):e2_ line=nr_ line:=ai7_ fun s=>by rw[amc_,ahk_]
end
end Go.Proofs.YthjccajoadjicaaGreatDoor
