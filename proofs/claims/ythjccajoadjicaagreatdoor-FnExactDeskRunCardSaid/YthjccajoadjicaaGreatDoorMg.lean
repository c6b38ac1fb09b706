/- The reference's words and texts, 2. Conditions: none. -/
import Derived.Test.YthjccajoadjicaaGreatDoorMf
set_option linter.unusedVariables false
set_option linter.unusedSimpArgs false
set_option maxRecDepth 100000
set_option maxHeartbeats 8000000
namespace Go.Proofs.YthjccajoadjicaaGreatDoor
section
theorem fr_ (a b:List Str):ai_ (a++b)=ai_ a++ai_ b:=by simp[ai_]
theorem bb_ (l:List Str):(∀r,r∈ai_ l→r.length=1)=True:=eq_true fun r hr=>v4_ hr
theorem hh_ (l:List Str):ai_ l=[]↔l=[]:=by cases l<;>simp[ai_]
theorem ahc_ {e:E} {d:Int} (h:form e d=true) (must:Int):wds e must=if e.kind=3∧ak_ e.s<must then [40]::(wds e 0++[[41]])else wds e 0:=by
 have:=al0_ h must 0
 unfold wds
 rw[this,t5_]
 by_cases h1:e.kind=3<;>by_cases h2:ak_ e.s<must<;>simp[h1,h2]
theorem t1_ {e:E} {d:Nat} (h:form e d=true) (hm:many e d≤1000) (must:Int):(wds e must).length≤3000:=by
 have:=cw_ d e must h;omega
theorem ac7_ {e:E} {d:Int} (h:form e d=true) (must:Int) (hm:must≤4):(lvl e<must)=(e.kind=3∧ak_ e.s<must):=by
 rcases (aj_ h).2 with⟨k1,_⟩|⟨k1,_⟩|⟨k1,h1,h2,h3,h4,h5⟩|⟨k1,_⟩
 ·simp[lvl,k1];omega
 ·simp[lvl,k1];omega
 ·rw[xd_ k1 h2];simp[k1]
 simp[lvl,k1];omega
attribute [local go_sem] af_ ah_ List.length_append List.take_of_length_le in
theorem g8_ (d:Nat):∀(e:E) (t:Int),form e d=true→sm e=true→many e d≤1000→t≤4→ -1000≤t→ACall En 105 [.ag (eC e),.i .i64 t] [] [.sl false (ai_ (wds e t))] []:=by
 induction d with
 |zero=>intro e t h;have:=(aj_ h).1;omega
 |succ d ih=>
 intro e t h hs hm ht ht2
 obtain⟨a1,a2,a3⟩:=fg_ hs
 have e1:((d+1:Nat):Int) - 1=(d:Int):=by omega
 have hd1:(1:Int)≤((d+1:Nat):Int):=by omega
 have g1:e.kind=1→0≤e.n∧e.n≤1000000:=fun hk=>by
  rcases (aj_ h).2 with⟨k1,h1,h2,h3,h4⟩|⟨k1,h1,h2,h3⟩|⟨k1,_⟩|⟨k1,_⟩<;>omega
 have g3:e.kind=3→e.kids.length=2∧1≤ak_ e.s∧ak_ e.s≤3∧form (e.kids.getD 0 E0) d=true∧form (e.kids.getD 1 E0) d=true∧many (e.kids.getD 0 E0) d≤1000∧many (e.kids.getD 1 E0) d≤1000∧lvl e=ak_ e.s:=fun hk=>by
  rcases (aj_ h).2 with⟨k1,_⟩|⟨k1,_⟩|⟨k1,h1,h2,h3,h4,h5⟩|⟨k1,_⟩<;>try omega
  rw[e1]at h4 h5
  have:=by_ h2
  have hm2:=ku_ hd1 h3
  rw[e1]at hm2
  have q1:=cw_ d _ 0 h4
  have q2:=cw_ d _ 0 h5
  exact⟨h3,this.1,this.2,h4,h5,by omega,by omega,xd_ k1 h2⟩
 have g4:e.kind=4→e.kids.length=1∧form (e.kids.getD 0 E0) d=true∧many (e.kids.getD 0 E0) d≤1000:=fun hk=>by
  rcases (aj_ h).2 with⟨k1,_⟩|⟨k1,_⟩|⟨k1,_⟩|⟨k1,h1,h2,h3,h4⟩<;>try omega
  rw[e1]at h4
  have hm2:=mj_ hd1 h3
  rw[e1]at hm2
  have q1:=cw_ d _ 0 h4
  exact⟨h3,h4,by omega⟩
 have g0:e.kind=1∨e.kind=2∨e.kind=3∨e.kind=4:=by
  rcases (aj_ h).2 with⟨k1,_⟩|⟨k1,_⟩|⟨k1,_⟩|⟨k1,_⟩<;>omega
 have hT:e.kind=3→wds e 0=wds (e.kids.getD 0 E0) (if lvl e=1 then 2 else lvl e)++[e.s]++wds (e.kids.getD 1 E0) (lvl e+1):=fun hk=>by
  have q:=g3 hk
  rw[eb_ hk q.1,if_neg (by omega),q.2.2.2.2.2.2.2,show max 2 (ak_ e.s)=if ak_ e.s=1 then 2 else ak_ e.s by split<;>omega]
 have hL:∀k,k<e.kids.length→∀m,(wds (e.kids.getD k E0) m).length≤3000:=fun k hk m=>by
  rcases g0 with hk4|hk4|hk4|hk4
  ·rcases (aj_ h).2 with⟨k1,h1,h2,h3,h4⟩|⟨k1,_⟩|⟨k1,_⟩|⟨k1,_⟩<;>try omega
   rw[h4]at hk;simp at hk
  ·rcases (aj_ h).2 with⟨k1,_⟩|⟨k1,h1,h2,h3⟩|⟨k1,_⟩|⟨k1,_⟩<;>try omega
   rw[h3]at hk;simp at hk
  ·have:=g3 hk4
   have hk2:k=0∨k=1:=by omega
   rcases hk2 with rfl|rfl
   ·exact t1_ this.2.2.2.1 this.2.2.2.2.2.1 _
   exact t1_ this.2.2.2.2.1 this.2.2.2.2.2.2.1 _
  have:=g4 hk4
  have hk2:k=0:=by omega
  subst hk2
  exact t1_ this.2.1 this.2.2 _
 have hW:=t1_ h hm
 have hA:e.kind=4→wds e 0=wds (e.kids.getD 0 E0) 4++[[97,115],e.s]:=fun hk=>i0_ hk (g4 hk).1 0
 refine aa_ [] Tryz.func105 Tryz.ntmps105 fun C=>?_
 refine .seq (.rg [] ?_)
 refine .seq (.rg [] ?_)
 refine .seq (.rg [ab_ (rm_ e)] ?_)
 refine .seqJ (fun u:Unit=>⟨[.no,.i .i64 t,.no,.no,.no,.ow 150 1 0 (wds e 0).length,.i .i64 (lvl e),.no,.no,.no,.no,.no,.no,.no,.no,.no,.no,.no,.no,.no,.no,.no,.no,.no,.no,.no,.no,.no,.no,.no,.no,.no,.no,.no,.no,.no,.no,.no,.no,.no,.no,.no,.no,.no,.no,.no,.no,.no,.no,.no,.no,.no,.no,.no,.no,.no,.no,.no,.no,.no,.no,.no,.no,.no,.no,.no,.no,.no,.no,.no,.no,.no,.no],ae_ [(150,⟨9,1,ai_ (wds e 0)⟩)],us [150]⟩) (fun u:Unit=>True) ?_ (fun u hJ=>?_)
 ·refine .seq (.rg [] ?_)
  refine .block (.seq (.rg [] ?_))
  refine .cB (fun h24=>?_) fun h24=>?_
  ·refine .rg [ab_ (hv_ e.n (by have:=g1 (by simpa using h24);omega) (by have:=g1 (by simpa using h24);omega))] ?_
   refine Exists.intro (()) ⟨?_,?_⟩
   ·trivial
   refine Can.trans (Can.sX 41 150) ?_
   refine Can.wk ?_ ?_
   ·(rw[gn_ (by simpa using h24)];rfl)
   (rw[gn_ (by simpa using h24),l1_ (by have:=g1 (by simpa using h24);omega)];rfl)
  refine .seq (.rg [] ?_)
  refine .cB (fun h32=>?_) fun h32=>?_
  ·refine .rg [] ?_
   refine Exists.intro (()) ⟨?_,?_⟩
   ·trivial
   refine Can.trans (Can.sX 48 150) ?_
   refine Can.wk ?_ ?_
   ·(rw[e1_ (by simpa using h32)];rfl)
   (rw[e1_ (by simpa using h32)];rfl)
  refine .seq (.rg [] ?_)
  refine .cB (fun h39=>?_) fun h39=>?_
  ·refine .seq (.rg [] ?_)
   refine .seqJ (fun lf:Int=>⟨[.no,.i .i64 t,.pt 12 4 0 0,.no,.no,.sl true [],.i .i64 (lvl e),.i .i64 lf,.no,.no,.no,.no,.no,.no,.no,.no,.no,.no,.no,.no,.no,.no,.no,.no,.no,.no,.no,.no,.no,.no,.no,.no,.no,.no,.no,.no,.no,.no,.no,.no,.no,.no,.no,.no,.no,.no,.no,.no,.no,.no,.no,.no,.no,.no,.no,.no,.no,.no,.no,.no,.no,.no,.no,.no,.no,.no,.no,.no,.no,.no,.no,.no,.no],ae_ [(12,⟨56,4,[eC e]⟩)],us [12]⟩) (fun lf:Int=>lf=if lvl e=1 then 2 else lvl e) ?_ (fun lf hJ=>?_)
   ·refine .seq (.rg [] ?_)
    refine .cB (fun h43=>?_) fun h43=>?_
    ·refine .rg [] ?_
     refine⟨2,?_,?_⟩
     ·simp_all
     refine Can.wh ?_;trivial
    refine .skip ?_
    refine⟨lvl e,?_,?_⟩
    ·simp_all
    refine Can.wh ?_;trivial
   refine .rgDo [ab_ (ih (e.kids.getD 0 E0) lf (g3 (by simpa using h39)).2.2.2.1 (cj_ a3 _ (ag_ (by have:=g3 (by simpa using h39);omega))) (g3 (by simpa using h39)).2.2.2.2.2.1 (by have:=g3 (by simpa using h39);rw[hJ];split<;>omega) (by have:=g3 (by simpa using h39);rw[hJ];split<;>omega)),ab_ (ih (e.kids.getD 1 E0) (lvl e+1) (g3 (by simpa using h39)).2.2.2.2.1 (cj_ a3 _ (ag_ (by have:=g3 (by simpa using h39);omega))) (g3 (by simpa using h39)).2.2.2.2.2.2.1 (by have:=g3 (by simpa using h39);omega) (by have:=g3 (by simpa using h39);omega))] ?_ ?_ (h:=by simp only[go_sem,seval,b8_ (show 0<e.kids.length by have:=g3 (by simpa using h39);omega),b8_ (show 1<e.kids.length by have:=g3 (by simpa using h39);omega),ac_ (show -9223372036854775808≤lvl e+1 by have:=g3 (by simpa using h39);omega) (by have:=g3 (by simpa using h39);omega)];rfl)
   ·have q:=g3 (by simpa using h39);have q1:=hL 0 (by omega) lf;have q2:1<e.kids.length:=(by omega);have q3:=hL 1 (by omega) (lvl e+1);simp[-List.getD_eq_getElem?_getD,c7_,q2,bb_];omega
   refine Exists.intro (()) ⟨?_,?_⟩
   ·trivial
   refine Can.trans (Can.sX 73 150) ?_
   refine Can.wk ?_ ?_
   ·(rw[hT (by simpa using h39),←hJ];simp;omega)
   (rw[hT (by simpa using h39),←hJ];simp[ai_,b7_];done)
  refine .rgDo [ab_ (ih (e.kids.getD 0 E0) 4 (g4 (by simp_all)).2.1 (cj_ a3 _ (ag_ (by have:=g4 (by simp_all);omega))) (g4 (by simp_all)).2.2 (by decide) (by decide))] ?_ ?_ (h:=by simp only[go_sem,seval,b8_ (show 0<e.kids.length by have:=g4 (by simp_all);omega)];rfl)
  ·have q:=g4 (by simp_all);have q1:=hL 0 (by omega) 4;have q2:0<e.kids.length:=(by omega);simp[-List.getD_eq_getElem?_getD,c7_,q2,bb_];omega
  refine Exists.intro (()) ⟨?_,?_⟩
  ·trivial
  refine Can.trans (Can.sX 33 150) ?_
  refine Can.wk ?_ ?_
  ·(rw[hA (by simp_all)];simp)
  (rw[hA (by simp_all)];simp[ai_])
 refine .seq (.seq (.rg [] ?_))
 refine .cB (fun h66=>?_) fun h66=>?_
 ·refine .seq (.rgo [] ?_ ?_)
  ·have q:=hW 0;simp[-List.getD_eq_getElem?_getD,c7_,bb_,hh_];((refine⟨⟨?_,by omega⟩,by omega,by omega⟩;intro e0;have:=(cw_ (d+1) e 0 h).1;rw[e0]at this;simp at this))
  refine .fX 81 ?_
  refine .ret ⟨.inr rfl,Out.pP Tryz.results105 ?_⟩;have q:e.kind=3∧ak_ e.s<t:=(by rw[←ac7_ h t ht];simpa using h66);rw[ahc_ h t,if_pos q];(first|(rw[if_pos (by omega),List.take_of_length_le (by simp[ai_];omega)];simp[ai_,peel]))
 refine .skip (.seq (.rg [] ?_))
 refine .fX 150 ?_
 refine .ret ⟨.inr rfl,Out.pP Tryz.results105 ?_⟩;have q:¬(e.kind=3∧ak_ e.s<t):=(by rw[←ac7_ h t ht];simpa using h66);rw[ahc_ h t,if_neg q]
end
section
theorem sb_ {e:E} (h:eok e=true) (must:Int):wds e must≠[]:=fun e0=>by have:=(bk_ h must).1;rw[e0]at this;simp at this
attribute [local go_sem] af_ ah_ List.length_append List.take_of_length_le cp_ in
theorem sa_ (b:Bl) (h:cx_ b=true) (hs:smb b=true):ACall En 187 [.ag (bC b)] [] [.sl false (ai_ (bw b))] []:=by
 obtain⟨h0,h1,h2⟩:=q7_ h
 obtain⟨s1,s2,s3⟩:=qf_ hs
 have W:b.kind=1∨b.kind=2∨b.kind=3→_:=fun hk=>g8_ 5 b.expr 1 (ao_ (h1 hk)) s2 (h8_ (h1 hk)) (by decide) (by decide)
 have W3:b.kind=3→_:=fun hk=>g8_ 5 b.thn 1 (ao_ (h2 hk)) s3 (h8_ (h2 hk)) (by decide) (by decide)
 refine aa_ [] Tryz.func187 Tryz.ntmps187 fun C=>?_
 refine .seq (.rg [] ?_)
 refine .seq (.seq (.rg [] ?_))
 refine .block (.seq (.rg [] ?_))
 refine .cB (fun h6=>?_) fun h6=>?_
 ·refine .seq (.rgDo [ab_ (W (.inl (by simpa using h6)))] ?_ ?_)
  ·have q:=h1 (.inl (by simpa using h6));have q2:=(bk_ q 1);have q3:=sb_ q 1;simp[c7_,bb_,q3,hh_];omega
  refine .fX 24 ?_
  refine .ret ⟨.inr rfl,Out.pP Tryz.results187 ?_⟩;have k:b.kind=1:=(by simpa using h6);rw[if_pos (by omega),List.take_of_length_le (by simp[af_];omega)];simp[bw,k,ai_,peel,wEq]
 refine .seq (.rg [] ?_)
 refine .cB (fun h15=>?_) fun h15=>?_
 ·refine .seq (.rgo [ab_ (W (.inr (.inl (by simpa using h15))))] ?_ ?_)
  ·have q:=h1 (.inr (.inl (by simpa using h15)));have q2:=(bk_ q 1);have q3:=sb_ q 1;simp[c7_,bb_,q3,hh_];omega
  refine .fX 31 ?_
  refine .ret ⟨.inr rfl,Out.pP Tryz.results187 ?_⟩;have k:b.kind=2:=(by simpa using h15);rw[if_pos (by omega),List.take_of_length_le (by simp[af_];omega)];simp[bw,k,ai_,peel,bj_]
 refine .seq (.rg [] ?_)
 refine .cB (fun h22=>?_) fun h22=>?_
 ·refine .seq (.rgo [ab_ (W (.inr (.inr (by simpa using h22))))] ?_ ?_)
  ·have q:=h1 (.inr (.inr (by simpa using h22)));have q2:=(bk_ q 1);have q3:=sb_ q 1;simp[c7_,bb_,q3,hh_];omega
  refine .seq (.rgDo [ab_ (W3 (by simpa using h22))] ?_ ?_)
  ·have q:=h1 (.inr (.inr (by simpa using h22)));have q2:=(bk_ q 1);have q4:=bk_ (h2 (by simpa using h22)) 1;simp[c7_,bb_];omega
  refine .fX 45 ?_
  refine .ret ⟨.inr rfl,Out.pP Tryz.results187 ?_⟩;have k:b.kind=3:=(by simpa using h22);rw[if_pos (by omega),List.take_of_length_le (by simp[af_];omega)];simp[bw,k,ai_,peel,bj_,wIf,bz_]
 refine .skip (.seq (.rg [] ?_))
 refine .can (Can.slotLe 2 (.sl false []) (by simp only[go_sem,seval]<;>trivial) (by simp only[go_sem,seval]<;>rfl)) ?_
 refine .ret ⟨.inr rfl,Out.pP Tryz.results187 ?_⟩;have k:b.kind=0:=(by simp_all);simp[bw,k,ai_]
theorem ag7_ {l:List Str} {k:Nat} (h:k<l.length):ap_ (l.take (k+1))=(if 0<k then ap_ (l.take k)++[32]else [])++l.getD k []:=by
 have snoc:∀(a:List Str) (s:Str),a≠[]→ap_ (a++[s])=ap_ a++32::s:=fun a s ha=>by
  induction a with
  |nil=>exact absurd rfl ha
  |cons x a ih=>
   cases a with
   |nil=>rw[e6_];show ap_ [x,s]=_;rw[ef_,e6_]
   |cons y a=>rw[List.cons_append,List.cons_append,ef_,ef_,←List.cons_append,ih (by simp)];simp
 rw[List.take_add_one,List.getElem?_eq_getElem h,List.getD_eq_getElem?_getD,List.getElem?_eq_getElem h]
 simp only[Option.toList_some,Option.getD_some]
 by_cases hk:0<k
 ·rw[snoc _ _ (by intro e;have:=congrArg List.length e;rw[List.length_take]at this;simp only[List.length_nil]at this;omega),if_pos hk];simp
 have:k=0:=by omega
 subst this;simp[e6_]
theorem amo_ {l:List Str} (k:Nat):(ap_ (l.take k)).length≤(ap_ l).length:=by
 by_cases h:l.take k=[]
 ·rw[h];simp[hw_]
 have h1:=ht_ _ h
 have h2:l≠[]:=fun e=>h (by rw[e];simp)
 have h3:=ht_ _ h2
 have h4:((l.take k).map List.length).sum+(l.take k).length≤(l.map List.length).sum+l.length:=by
  conv=>rhs;rw[←List.take_append_drop k l]
  rw[List.map_append,List.sum_append,List.length_append];omega
 omega
attribute [local go_sem] af_ ah_ in
theorem ee_ (l:List Str) (hl:l.length<1099511627776) (hb:(ap_ l).length<1099511627776):ACall En 49 [.sl false (ai_ l)] [] [.s (ap_ l)] []:=by
 refine aa_ [] Tryz.func49 Tryz.ntmps49 fun C=>?_
 refine .seq (.rg [] ?_)
 refine .seq (.rg [] ?_)
 refine .seq (.seq (.rg [] ?_))
 refine .block (.loopK (fun k:Nat=>⟨[.sl false (ai_ l),.no,.no,.s (ap_ (l.take k)),.i .i64 k,.no,.no,.no,.no,.no,.no,.no,.no,.no,.no,.no,.no,.no,.no,.no,.no,.no],ae_ [],us []⟩) (fun k:Nat=>k≤l.length) (fun k:Nat=>l.length - k) (0) ?_ ?_ (fun k hI=>?_))
 ·simp
 ·refine Can.wh ?_;simp[hw_]
 refine .seq (.seq (.rg [] ?_))
 refine .cB (fun h8=>?_) fun h8=>?_
 ·refine .skip (.seq (.block (.seqJ (fun q:Str=>⟨[.sl false (ai_ l),.no,.no,.s q,.i .i64 k,.no,.no,.no,.no,.no,.no,.no,.no,.no,.no,.no,.no,.no,.no,.no,.no,.no],ae_ [],us []⟩) (fun q:Str=>q=if 0<k then ap_ (l.take k)++[32]else []) ?_ (fun q hJ=>?_))))
  ·refine .seq (.rg [] ?_)
   refine .cB (fun h12=>?_) fun h12=>?_
   ·refine .rgo [] ?_ ?_
    ·have q:=amo_ (l:=l) k;simp;omega
    refine Exists.intro (ap_ (l.take k)++[32]) ⟨?_,?_⟩
    ·simp at h12;simp[h12]
    refine Can.wh ?_;trivial
   refine .skip ?_
   refine⟨[],?_,?_⟩
   ·simp at h12;simp[h12]
   refine Can.wh ?_;(simp at h12;subst h12;simp[hw_])
  refine .rgo [] ?_ ?_ (h:=by simp only[go_sem,seval,an_ (show k<l.length by simpa using h8)];rfl)
  ·have q1:=amo_ (l:=l) (k+1);rw[ag7_ (by simpa using h8),←hJ,List.length_append]at q1;refine⟨⟨by omega,by simpa using h8⟩,by omega⟩
  refine .rg [] ?_
  refine⟨k+1,?_,?_,?_⟩
  ·simp at h8;omega
  ·simp at h8;omega
  refine Can.wh ?_;rw[ac_ (by simp at h8;omega) (by simp at h8;omega)];refine⟨?_,by simp⟩;first|(rw[hJ,ag7_ (by simpa using h8)];done)
 refine .exit (.seq (.rg [] ?_))
 refine .ret ⟨.inr rfl,Out.pP Tryz.results49 ?_⟩;simp at h8;rw[List.take_of_length_le h8]
attribute [local go_sem] cp_ ah_ in
theorem x6_ (b:Bl) (hs:smb b=true):ACall En 186 [.ag (bC b)] [] [.b (bok b)] []:=by
 obtain⟨s1,s2,s3⟩:=qf_ hs
 refine aa_ [] Tryz.func186 Tryz.ntmps186 fun C=>?_
 refine .seq (.rg [] ?_)
 refine .seq (.rg [] ?_)
 refine .seqJ (fun q:Bool=>⟨[.no,.pt 11 10 0 0,.no,.b q,.no,.no,.no,.no,.no,.no,.no,.no,.no,.no,.no,.no,.no,.no,.no,.no,.no,.no,.no,.no,.no,.no,.no,.no,.no,.no,.no,.no,.no,.no,.no,.no,.no,.no,.no,.no,.no,.no,.no,.no,.no,.no,.no,.no,.no,.no,.no,.no,.no,.no,.no,.no,.no,.no,.no,.no,.no,.no,.no,.no,.no,.no,.no,.no,.no,.no,.no,.no,.no,.no],ae_ [(11,⟨147,10,[bC b]⟩)],us [11]⟩) (fun q:Bool=>q=cx_ b) ?_ (fun q hJ=>?_)
 ·refine .seq (.rg [] ?_)
  refine .block (.seq (.rg [] ?_))
  refine .cB (fun h6=>?_) fun h6=>?_
  ·refine .rg [ab_ (hu_ b.expr s2),ab_ (hu_ b.thn s3)] ?_
   refine⟨cx_ b,?_,?_⟩
   ·rfl
   refine Can.wh ?_;(unfold cx_;simp_all)
  refine .seq (.rg [] ?_)
  refine .cB (fun h21=>?_) fun h21=>?_
  ·refine .rg [ab_ (p6_ b.name s1),ab_ (om_ b.expr s2),ab_ (hu_ b.thn s3)] ?_
   refine⟨cx_ b,?_,?_⟩
   ·rfl
   refine Can.wh ?_;(unfold cx_;simp_all)
  refine .seq (.rg [] ?_)
  refine .cB (fun h36=>?_) fun h36=>?_
  ·refine .rg [ab_ (om_ b.expr s2),ab_ (hu_ b.thn s3)] ?_
   refine⟨cx_ b,?_,?_⟩
   ·rfl
   refine Can.wh ?_;(unfold cx_;simp_all)
  refine .seq (.rg [] ?_)
  refine .cB (fun h51=>?_) fun h51=>?_
  ·refine .rg [ab_ (om_ b.expr s2),ab_ (om_ b.thn s3)] ?_
   refine⟨cx_ b,?_,?_⟩
   ·rfl
   refine Can.wh ?_;(unfold cx_;simp_all)
  refine .skip ?_
  refine⟨cx_ b,?_,?_⟩
  ·rfl
  refine Can.wh ?_;(unfold cx_;simp_all)
 cases q
 ·refine .seq (.rg [a0_ (cx_ b=true) (fun h=>sa_ b h hs),a0_ (cx_ b=true) (fun h=>ee_ (bw b) (by have:=(nu_ h).1;omega) (by have:=ov_ h;omega))] ?_)
  refine .ret ⟨.inr rfl,Out.pP Tryz.results186 ?_⟩;rw[bok,←hJ];first|rfl|(rw[Bool.true_and,dt_];rfl)
 refine .seq (.rgo [a0_ (cx_ b=true) (fun h=>sa_ b h hs),a0_ (cx_ b=true) (fun h=>ee_ (bw b) (by have:=(nu_ h).1;omega) (by have:=ov_ h;omega))] ?_ ?_)
 ·(exact hJ.symm)
 refine .ret ⟨.inr rfl,Out.pP Tryz.results186 ?_⟩;rw[bok,←hJ];first|rfl|(rw[Bool.true_and,dt_];rfl)
end
section
theorem E.kind_mk (k n:Int) (s:Str) (r:List E):(E.mk k n s r).kind=k:=rfl
theorem E.n_mk (k n:Int) (s:Str) (r:List E):(E.mk k n s r).n=n:=rfl
theorem E.s_mk (k n:Int) (s:Str) (r:List E):(E.mk k n s r).s=s:=rfl
theorem E.kids_mk (k n:Int) (s:Str) (r:List E):(E.mk k n s r).kids=r:=rfl
abbrev rdB (b:Str) (p:Int):Blk:=⟨83,2,[[.sl false (byR b),.i .i64 p]]⟩
def wInt:Str:=[105,110,116]
def lfE (b:Str) (p:Int):E:=if ay_ b p 2=0 then .mk 1 (ob_ b (p+1) [0,1,2,7,30,1000000]) [] []else .mk 2 0 (ofI b (p+1) [[120],[121],[122],[120]]) []
def dE (b:Str):Nat→Int→E × Int
 |0,p=>(lfE b p,p+2)
 |d+1,p=>
  if d=0 then(lfE b p,p+2)
  else if ay_ b p 4=0 then(lfE b (p+1),p+3)
  else if ay_ b (p+1) 4=0 then(.mk 4 0 (ofI b (p+2) [[105,110,116],[98,111,111,108],[105,110,116]]) [(dE b d (p+3)).1],(dE b d (p+3)).2)
  else(.mk 3 0 (ofI b (p+2) [[43],[45],[42],[60],[43],[42]]) [(dE b d (p+3)).1,(dE b d (dE b d (p+3)).2).1],(dE b d (dE b d (p+3)).2).2)
theorem dE_p (b:Str):∀(d:Nat) (p:Int),p≤(dE b d p).2∧(dE b d p).2≤p+5 * 2 ^ d - 3
 |0,p=>by simp[dE];omega
 |d+1,p=>by
  have e:(2:Int) ^ (d+1)=2 * 2 ^ d:=by rw[Int.pow_succ];omega
  have e2:(0:Int)<2 ^ d:=Int.pow_pos (by decide)
  have h1:=dE_p b d (p+3)
  have h2:=dE_p b d (dE b d (p+3)).2
  simp only[dE]
  split
  ·dsimp only;omega
  split
  ·dsimp only;omega
  split<;>dsimp only<;>omega
theorem akj_ {b:Str} {p:Int} {l:List Int} (hl:0<l.length) (hp:0≤p) (hp2:p<1099511627776):ob_ b p l∈l:=by
 have:=cl_ b hp hp2 (show 1≤(l.length:Int) by omega)
 exact ag_ (by omega)
theorem wk_ {b:Str} {p:Int} {l:List Str} (hl:0<l.length) (hp:0≤p) (hp2:p<1099511627776):ofI b p l∈l:=by
 have:=cl_ b hp hp2 (show 1≤(l.length:Int) by omega)
 exact ag_ (by omega)
theorem av1_ {n:Int} {d:Int} (hd:1≤d) (h:0≤n) (h1:n≤1000000):form (.mk 1 n [] []) d=true:=by simp[form,ck_,shape,h,h1,hd]
theorem ano_ {s:Str} {d:Int} (hd:1≤d) (h:gi_ s=true):form (.mk 2 0 s []) d=true:=by simp[form,ck_,shape,h,hd]
theorem afz_ (b:Str) (p:Int) (hp:0≤p) (hp2:p+1<1099511627776) (d:Int) (hd:1≤d):form (lfE b p) d=true∧sm (lfE b p)=true∧many (lfE b p) d=1:=by
 unfold lfE
 split
 ·have:=akj_ (b:=b) (l:=[0,1,2,7,30,1000000]) (by decide) (show 0≤p+1 by omega) hp2
  simp only[List.mem_cons,List.not_mem_nil,or_false]at this
  refine⟨av1_ hd (by omega) (by omega),by simp[sm,sms],by simp[many,cg_]⟩
 have:=wk_ (b:=b) (l:=[[120],[121],[122],[120]]) (by decide) (show 0≤p+1 by omega) hp2
 simp only[List.mem_cons,List.not_mem_nil,or_false]at this
 refine⟨ano_ hd ?_,?_,by simp[many,cg_]⟩
 ·rcases this with h|h|h|h<;>rw[h]<;>decide
 rcases this with h|h|h|h<;>rw[h]<;>decide
theorem op_ (b:Str):∀(d:Nat) (p:Int),0≤p→p+5 * 2 ^ (d+1)<1099511627776→form (dE b (d+1) p).1 ((d+1:Nat):Int)=true∧sm (dE b (d+1) p).1=true
 |0,p,hp,hp2=>by simp only[dE];have:=afz_ b p hp (by omega) 1 (by decide);exact⟨this.1,this.2.1⟩
 |d+1,p,hp,hp2=>by
  have e:(2:Int) ^ (d+1+1)=2 * 2 ^ (d+1):=by rw[Int.pow_succ];omega
  have e2:(0:Int)<2 ^ (d+1):=Int.pow_pos (by decide)
  have e3:((d+1+1:Nat):Int) - 1=((d+1:Nat):Int):=by omega
  have q1:=dE_p b (d+1) (p+3)
  have h1:=op_ b d (p+3) (by omega) (by omega)
  have h2:=op_ b d (dE b (d+1) (p+3)).2 (by omega) (by omega)
  have e4:(decide ((1:Int)≤((d+1+1:Nat):Int)))=true:=by simp;omega
  rw[dE,if_neg (by omega)]
  split
  ·have:=afz_ b (p+1) (by omega) (by omega) ((d+1+1:Nat):Int) (by omega);exact⟨this.1,this.2.1⟩
  split
  ·have:=wk_ (b:=b) (l:=[[105,110,116],[98,111,111,108],[105,110,116]]) (by decide) (show 0≤p+2 by omega) (by omega)
   simp only[List.mem_cons,List.not_mem_nil,or_false]at this
   have ht:ey_ (ofI b (p+2) [[105,110,116],[98,111,111,108],[105,110,116]])=true:=by rcases this with h|h|h<;>rw[h]<;>decide
   have hl:=rq_ ht
   refine⟨?_,?_⟩
   ·simp only[form,ck_,shape,e3,e4,h1.1,ht];rfl
   simp only[sm,sms,h1.2,List.length_cons,List.length_nil,Bool.and_true,Bool.and_eq_true,decide_eq_true_eq];omega
  have:=wk_ (b:=b) (l:=[[43],[45],[42],[60],[43],[42]]) (by decide) (show 0≤p+2 by omega) (by omega)
  simp only[List.mem_cons,List.not_mem_nil,or_false]at this
  have ht:fn_ (ofI b (p+2) [[43],[45],[42],[60],[43],[42]])=true:=by rcases this with h|h|h|h|h|h<;>rw[h]<;>decide
  have hl:=ads_ ht
  refine⟨?_,?_⟩
  ·simp only[form,ck_,shape,e3,e4,h1.1,h2.1,ht];rfl
  simp only[sm,sms,h1.2,h2.2,List.length_cons,List.length_nil,Bool.and_true,Bool.and_eq_true,decide_eq_true_eq];omega
theorem a2k_ (b:Str) (p:Int):dE b 1 p=(lfE b p,p+2):=by simp[dE]
theorem jr_ (b:Str) (d:Nat) (p:Int):dE b (d+1+1) p=if ay_ b p 4=0 then(lfE b (p+1),p+3)
  else if ay_ b (p+1) 4=0 then(.mk 4 0 (ofI b (p+2) [[105,110,116],[98,111,111,108],[105,110,116]]) [(dE b (d+1) (p+3)).1],(dE b (d+1) (p+3)).2)
  else(.mk 3 0 (ofI b (p+2) [[43],[45],[42],[60],[43],[42]]) [(dE b (d+1) (p+3)).1,(dE b (d+1) (dE b (d+1) (p+3)).2).1],(dE b (d+1) (dE b (d+1) (p+3)).2).2):=by
 rw[dE,if_neg (by omega)]
attribute [local go_sem] aw_ a5_ ho_ eo_ e3_ ep_ in
theorem aph_ (b:Str) (p deep:Int) (hb:b.length≤2000) (hp:0≤p) (hp2:p<10000000000) (hd:deep≤1):ACall En 100 [.pt 0 2 0 0,.i .i64 deep] [rdB b p] [.ag (eC (lfE b p))] [rdB b (p+2)]:=by
 have hdd:decide (deep≤1)=true:=by simpa using hd
 refine aa_ [0] Tryz.func100 Tryz.ntmps100 fun C=>?_
 refine .seq (.rg [] ?_ (h:=by simp only[go_sem,seval,hdd];rfl))
 refine .seq (.seq (.rg [at_ [0] [] (c5_ b p 4 hb hp (by omega))] ?_ (h:=by simp only[go_sem,seval,hdd];rfl)))
 refine .cB (fun h11=>?_) (fun h11=>?_) (hc:=by simp only[go_sem,seval,hdd];rfl) (hp:=by simp only[go_sem,seval,hdd])
 ·refine .seq (.seq (.rg [at_ [0] [] (c5_ b p 2 hb hp (by omega))] ?_ (h:=by simp only[go_sem,seval,hdd];rfl)))
  refine .cB (fun h14=>?_) (fun h14=>?_) (hc:=by simp only[go_sem,seval,hdd];rfl) (hp:=by simp only[go_sem,seval,hdd])
  ·refine .seq (.rg [at_ [0] [] (w5_ b (p+1) [0,1,2,7,30,1000000] (by decide) hb (by omega) (by omega))] ?_ (h:=by simp only[go_sem,seval,hdd];rfl))
   refine .ret ⟨.inr rfl,?_⟩
   exact Out.mmL (by simp only[Tryz.results100];rfl) (by simp only[ba_,rns,rn,go_sem,seval,hdd]<;>(simp at h14;simp[lfE,h14,dz_,E.kind_mk,E.n_mk,E.s_mk,E.kids_mk,eR,ler])) (by simp only[aw_,go_sem,seval,hdd]<;>(rw[show p+1+1=p+2 by omega])) (h1:=by simp only[a1_,bn_,go_sem,seval,hdd]) (h6:=by simp only[go_sem,seval,hdd]) (h7:=by simp only[a5_,go_sem,seval,hdd])
  refine .skip (.seq (.rg [at_ [0] [] (pt_ b (p+1) [[120],[121],[122],[120]] (by decide) hb (by omega) (by omega))] ?_ (h:=by simp only[go_sem,seval,hdd];rfl)))
  refine .ret ⟨.inr rfl,?_⟩
  exact Out.mmL (by simp only[Tryz.results100];rfl) (by simp only[ba_,rns,rn,go_sem,seval,hdd]<;>(simp at h14;simp[lfE,h14,dz_,E.kind_mk,E.n_mk,E.s_mk,E.kids_mk,eR,ler])) (by simp only[aw_,go_sem,seval,hdd]<;>(rw[show p+1+1=p+2 by omega])) (h1:=by simp only[a1_,bn_,go_sem,seval,hdd]) (h6:=by simp only[go_sem,seval,hdd]) (h7:=by simp only[a5_,go_sem,seval,hdd])
 exact absurd h11 (by simp)
attribute [local go_sem] aw_ a5_ ho_ eo_ e3_ ep_ in
theorem v2_ (b:Str) (hb:b.length≤2000) (d:Nat):∀p:Int,0≤p→p+5 * 2 ^ (d+1)<10000000000→d<10→
  ACall En 100 [.pt 0 2 0 0,.i .i64 ((d+1:Nat):Int)] [rdB b p] [.ag (eC (dE b (d+1) p).1)] [rdB b (dE b (d+1) p).2]:=by
 induction d with
 |zero=>intro p hp hp2 _;rw[a2k_];exact aph_ b p _ hb hp (by omega) (by decide)
 |succ d ih=>
 intro p hp hp2 hd10
 have e:(2:Int) ^ (d+1+1)=2 * 2 ^ (d+1):=by rw[Int.pow_succ];omega
 have e2:(0:Int)<2 ^ (d+1):=Int.pow_pos (by decide)
 have q1:=dE_p b (d+1) (p+3)
 have hdd:decide (((d+1+1:Nat):Int)≤1)=false:=by simp;omega
 have hw:IntKind.i64.wrap (((d+1+1:Nat):Int) - 1)=((d+1:Nat):Int):=by rw[ac_ (by omega) (by omega)];omega
 have A:=fun(c1:¬ay_ b p 4=0)=>ih (p+3) (by omega) (by omega) (by omega)
 have B:=fun(c1:¬ay_ b p 4=0)=>ih (dE b (d+1) (p+3)).2 (by omega) (by omega) (by omega)
 refine aa_ [0] Tryz.func100 Tryz.ntmps100 fun C=>?_
 refine .seq (.rg [] ?_ (h:=by simp only[go_sem,seval,hdd,hw,show p+1+1=p+2 from by omega,show p+2+1=p+3 from by omega];rfl))
 refine .seq (.seq (.rg [at_ [0] [] (c5_ b p 4 hb hp (by omega))] ?_ (h:=by simp only[go_sem,seval,hdd,hw,show p+1+1=p+2 from by omega,show p+2+1=p+3 from by omega];rfl)))
 refine .cB (fun h11=>?_) (fun h11=>?_) (hc:=by simp only[go_sem,seval,hdd,hw,show p+1+1=p+2 from by omega,show p+2+1=p+3 from by omega];rfl) (hp:=by simp only[go_sem,seval,hdd,hw,show p+1+1=p+2 from by omega,show p+2+1=p+3 from by omega])
 ·refine .seq (.seq (.rg [at_ [0] [] (c5_ b (p+1) 2 hb (by omega) (by omega))] ?_ (h:=by simp only[go_sem,seval,hdd,hw,show p+1+1=p+2 from by omega,show p+2+1=p+3 from by omega];rfl)))
  refine .cB (fun h14=>?_) (fun h14=>?_) (hc:=by simp only[go_sem,seval,hdd,hw,show p+1+1=p+2 from by omega,show p+2+1=p+3 from by omega];rfl) (hp:=by simp only[go_sem,seval,hdd,hw,show p+1+1=p+2 from by omega,show p+2+1=p+3 from by omega])
  ·refine .seq (.rg [at_ [0] [] (w5_ b (p+1+1) [0,1,2,7,30,1000000] (by decide) hb (by omega) (by omega))] ?_ (h:=by simp only[go_sem,seval,hdd,hw,show p+1+1=p+2 from by omega,show p+2+1=p+3 from by omega];rfl))
   refine .ret ⟨.inr rfl,?_⟩
   exact Out.mmL (by simp only[Tryz.results100];rfl) (by simp only[ba_,rns,rn,go_sem,seval,hdd,hw,show p+1+1=p+2 from by omega,show p+2+1=p+3 from by omega]<;>(simp at h11 h14;simp[jr_,lfE,h11,h14,dz_,E.kind_mk,E.n_mk,E.s_mk,E.kids_mk,eR,ler,les,leV,ad_,show p+1+1=p+2 by omega])) (by simp only[aw_,go_sem,seval,hdd,hw,show p+1+1=p+2 from by omega,show p+2+1=p+3 from by omega]<;>(simp at h11;simp[jr_,h11])) (h1:=by simp only[a1_,bn_,go_sem,seval,hdd,hw,show p+1+1=p+2 from by omega,show p+2+1=p+3 from by omega]) (h6:=by simp only[go_sem,seval,hdd,hw,show p+1+1=p+2 from by omega,show p+2+1=p+3 from by omega]) (h7:=by simp only[a5_,go_sem,seval,hdd,hw,show p+1+1=p+2 from by omega,show p+2+1=p+3 from by omega])
  refine .skip (.seq (.rg [at_ [0] [] (pt_ b (p+1+1) [[120],[121],[122],[120]] (by decide) hb (by omega) (by omega))] ?_ (h:=by simp only[go_sem,seval,hdd,hw,show p+1+1=p+2 from by omega,show p+2+1=p+3 from by omega];rfl)))
  refine .ret ⟨.inr rfl,?_⟩
  exact Out.mmL (by simp only[Tryz.results100];rfl) (by simp only[ba_,rns,rn,go_sem,seval,hdd,hw,show p+1+1=p+2 from by omega,show p+2+1=p+3 from by omega]<;>(simp at h11 h14;simp[jr_,lfE,h11,h14,dz_,E.kind_mk,E.n_mk,E.s_mk,E.kids_mk,eR,ler,les,leV,ad_,show p+1+1=p+2 by omega])) (by simp only[aw_,go_sem,seval,hdd,hw,show p+1+1=p+2 from by omega,show p+2+1=p+3 from by omega]<;>(simp at h11;simp[jr_,h11])) (h1:=by simp only[a1_,bn_,go_sem,seval,hdd,hw,show p+1+1=p+2 from by omega,show p+2+1=p+3 from by omega]) (h6:=by simp only[go_sem,seval,hdd,hw,show p+1+1=p+2 from by omega,show p+2+1=p+3 from by omega]) (h7:=by simp only[a5_,go_sem,seval,hdd,hw,show p+1+1=p+2 from by omega,show p+2+1=p+3 from by omega])
 refine .skip (.seq (.seq (.rg [at_ [0] [] (c5_ b (p+1) 4 hb (by omega) (by omega))] ?_ (h:=by simp only[go_sem,seval,hdd,hw,show p+1+1=p+2 from by omega,show p+2+1=p+3 from by omega];rfl))))
 refine .cB (fun h25=>?_) (fun h25=>?_) (hc:=by simp only[go_sem,seval,hdd,hw,show p+1+1=p+2 from by omega,show p+2+1=p+3 from by omega];rfl) (hp:=by simp only[go_sem,seval,hdd,hw,show p+1+1=p+2 from by omega,show p+2+1=p+3 from by omega])
 ·refine .seq (.rg [at_ [0] [] (pt_ b (p+1+1) [[105,110,116],[98,111,111,108],[105,110,116]] (by decide) hb (by omega) (by omega)),at_ [0] [] (A (by simpa using h11))] ?_ (h:=by simp only[go_sem,seval,hdd,hw,show p+1+1=p+2 from by omega,show p+2+1=p+3 from by omega];rfl))
  refine .ret ⟨.inr rfl,?_⟩
  exact Out.mmL (by simp only[Tryz.results100];rfl) (by simp only[ba_,rns,rn,go_sem,seval,hdd,hw,show p+1+1=p+2 from by omega,show p+2+1=p+3 from by omega]<;>(simp at h11 h25;simp[jr_,h11,h25,dz_,E.kind_mk,E.n_mk,E.s_mk,E.kids_mk,eR,ler,les,leV,ad_,show p+1+1=p+2 by omega])) (by simp only[aw_,go_sem,seval,hdd,hw,show p+1+1=p+2 from by omega,show p+2+1=p+3 from by omega]<;>(simp at h11 h25;simp[jr_,h11,h25])) (h1:=by simp only[a1_,bn_,go_sem,seval,hdd,hw,show p+1+1=p+2 from by omega,show p+2+1=p+3 from by omega]) (h6:=by simp only[go_sem,seval,hdd,hw,show p+1+1=p+2 from by omega,show p+2+1=p+3 from by omega]) (h7:=by simp only[a5_,go_sem,seval,hdd,hw,show p+1+1=p+2 from by omega,show p+2+1=p+3 from by omega])
 refine .skip (.seq (.rg [at_ [0] [] (pt_ b (p+1+1) [[43],[45],[42],[60],[43],[42]] (by decide) hb (by omega) (by omega)),at_ [0] [] (A (by simpa using h11)),at_ [0] [] (B (by simpa using h11))] ?_ (h:=by simp only[go_sem,seval,hdd,hw,show p+1+1=p+2 from by omega,show p+2+1=p+3 from by omega];rfl)))
 refine .ret ⟨.inr rfl,?_⟩
 exact Out.mmL (by simp only[Tryz.results100];rfl) (by simp only[ba_,rns,rn,go_sem,seval,hdd,hw,show p+1+1=p+2 from by omega,show p+2+1=p+3 from by omega]<;>(simp at h11 h25;simp[jr_,h11,h25,dz_,E.kind_mk,E.n_mk,E.s_mk,E.kids_mk,eR,ler,les,leV,ad_,show p+1+1=p+2 by omega])) (by simp only[aw_,go_sem,seval,hdd,hw,show p+1+1=p+2 from by omega,show p+2+1=p+3 from by omega]<;>(simp at h11 h25;simp[jr_,h11,h25])) (h1:=by simp only[a1_,bn_,go_sem,seval,hdd,hw,show p+1+1=p+2 from by omega,show p+2+1=p+3 from by omega]) (h6:=by simp only[go_sem,seval,hdd,hw,show p+1+1=p+2 from by omega,show p+2+1=p+3 from by omega]) (h7:=by simp only[a5_,go_sem,seval,hdd,hw,show p+1+1=p+2 from by omega,show p+2+1=p+3 from by omega])
end
section
structure RS where
 left:List Str
 bad:Bool
 deep:Int
def wAs:Str:=[97,115]
def br_ (s:RS):Str:=match s.left with|[]=>[]|x::_=>x
def a7_ (s:RS):RS:=match s.left with|[]=>{ s with bad:=true }|_::r=>{ s with left:=r }
def asL:List Str→E→Int→E × RS
 |[],e,d=>(e,⟨[],false,d⟩)
 |[w],e,d=>if w=wAs then(.mk 4 0 [] [e],⟨[],true,d⟩)else(e,⟨[w],false,d⟩)
 |w::t::r,e,d=>if w=wAs then asL r (.mk 4 0 t [e]) d else(e,⟨w::t::r,false,d⟩)
def asR (s:RS) (e:E):E × RS:=if s.bad then(e,s)else asL s.left e s.deep
mutual
def b4_:Nat→Nat→RS→E × RS
 |0,_,s=>(E0,s)
 |n+1,t,s=>if t=4 then fy_ n s else dh_ n t (b4_ n (t+1) s).1 (b4_ n (t+1) s).2
def dh_:Nat→Nat→E→RS→E × RS
 |0,_,e,s=>(e,s)
 |n+1,t,e,s=>if s.bad=false∧s.left≠[]∧ak_ (br_ s)=t then
   dh_ n t (.mk 3 0 (br_ s) [e,(b4_ n (t+1) (a7_ s)).1]) (b4_ n (t+1) (a7_ s)).2 else(e,s)
def fy_:Nat→RS→E × RS
 |0,s=>(E0,s)
 |n+1,s=>asR (en_ n (br_ s) (a7_ s)).2 (en_ n (br_ s) (a7_ s)).1
def en_:Nat→Str→RS→E × RS
 |0,_,s=>(E0,s)
 |n+1,w,s=>
  if w=[40]then
   if s.bad=true∨40<s.deep+1 then(E0,{ s with deep:=s.deep+1,bad:=true })
   else
    let p:=b4_ n 1 { s with deep:=s.deep+1 }
    (p.1,if p.2.bad then p.2 else { a7_ p.2 with bad:=!(br_ p.2==[41]) })
  else if a8_ w then(.mk 1 (am_ w) [] [],s)
  else if gi_ w then(.mk 2 0 w [],s)
  else(E0,{ s with bad:=true })
end
theorem ix_ (s:RS):(a7_ s).left.length≤s.left.length:=by
 unfold a7_;split<;>simp_all
theorem abo_:∀(l:List Str) (e:E) (d:Int),(asL l e d).2.left.length≤l.length∧(asL l e d).2.deep=d
 |[],e,d=>by simp[asL]
 |[w],e,d=>by simp only[asL];split<;>simp
 |w::t::r,e,d=>by
  simp only[asL]
  split
  ·have:=abo_ r (.mk 4 0 t [e]) d;simp only[List.length_cons];omega
  simp
theorem amq_ (s:RS) (e:E):(asR s e).2.left.length≤s.left.length:=by
 unfold asR;split
 ·exact Nat.le_refl _
 exact(abo_ s.left e s.deep).1
theorem avh_ (s:RS) (e:E):(asR s e).2.deep=s.deep:=by
 unfold asR;split
 ·rfl
 exact(abo_ s.left e s.deep).2
theorem uh_ (s:RS):(a7_ s).deep=s.deep:=by unfold a7_;split<;>rfl
theorem akm_:∀(n:Nat),(∀t s,(b4_ n t s).2.left.length≤s.left.length)∧(∀t e s,(dh_ n t e s).2.left.length≤s.left.length)∧(∀s,(fy_ n s).2.left.length≤s.left.length)∧(∀w s,(en_ n w s).2.left.length≤s.left.length)
 |0=>by simp[b4_,dh_,fy_,en_]
 |n+1=>by
  obtain⟨h1,h2,h3,h4⟩:=akm_ n
  refine⟨fun t s=>?_,fun t e s=>?_,fun s=>?_,fun w s=>?_⟩
  ·simp only[b4_];split
   ·exact h3 s
   exact Nat.le_trans (h2 _ _ _) (h1 _ _)
  ·simp only[dh_];split
   ·exact Nat.le_trans (h2 _ _ _) (Nat.le_trans (h1 _ _) (ix_ s))
   exact Nat.le_refl _
  ·simp only[fy_];exact Nat.le_trans (amq_ _ _) (Nat.le_trans (h4 _ _) (ix_ s))
  simp only[en_]
  split
  ·split
   ·exact Nat.le_refl _
   dsimp only
   split
   ·exact h1 _ _
   exact Nat.le_trans (ix_ _) (h1 _ _)
  split
  ·exact Nat.le_refl _
  split<;>exact Nat.le_refl _
def okR (t:Nat) (l:List Str):Prop:=l.head?≠some wAs∧∀w,l.head? = some w→ak_ w≤t
theorem aes_ {l:List Str} {e:E} {d:Int} (h:l.head?≠some wAs):asL l e d=(e,⟨l,false,d⟩):=by
 match l,h with
 |[],_=>rfl
 |[w],h=>simp only[asL];rw[if_neg (fun e=>h (by rw[e];rfl))]
 |w::t::r,h=>simp only[asL];rw[if_neg (fun e=>h (by rw[e];rfl))]
theorem i1_ {n t:Nat} {e:E} {l:List Str} {d:Int} (h:∀w,l.head? = some w→ak_ w≠t):dh_ n t e ⟨l,false,d⟩=(e,⟨l,false,d⟩):=by
 cases n with
 |zero=>rfl
 |succ n=>
  simp only[dh_]
  rw[if_neg]
  rintro⟨_,h1,h2⟩
  cases l with
  |nil=>exact h1 rfl
  |cons w r=>exact h w rfl h2
def eff (e:E) (must:Int):Int:=if e.kind=3∧¬ak_ e.s<must then ak_ e.s else 4
theorem va_ {s:Str} (h:fn_ s=true):s≠wAs∧s≠[41]:=by
 simp only[fn_,Bool.or_eq_true,beq_iff_eq]at h;rcases h with((h|h)|h)|h<;>subst h<;>decide
theorem ad2_ {s:Str} (h:gi_ s=true):s≠[40]∧a8_ s=false:=by
 have h1:s.all cd_=true∧1≤s.length:=by simp only[gi_,e4_,Bool.and_eq_true,decide_eq_true_eq]at h;exact⟨h.1.1.1,h.1.1.2⟩
 refine⟨fun e=>by subst e;exact absurd h1.1 (by decide),?_⟩
 rw[Bool.eq_false_iff];intro hn
 obtain⟨n,_,rfl⟩:=do_.1 hn
 have hd:=c6_ n
 cases hl:Go.Lib.decDigits n with
 |nil=>rw[hl]at h1;simp at h1
 |cons c r=>
  rw[hl]at h1 hd
  have h2:=hd c (by simp)
  simp only[List.all_cons,Bool.and_eq_true,cd_,decide_eq_true_eq]at h1
  unfold gk_ at h2;omega
theorem mx_ {n:Nat} (h:n≤1000000):a8_ (Go.Lib.decDigits n)=true∧am_ (Go.Lib.decDigits n)=n∧Go.Lib.decDigits n≠[40]:=by
 refine⟨do_.2 ⟨n,h,rfl⟩,d1_ n,fun e=>?_⟩
 have:=c6_ n 40 (by rw[e];simp)
 unfold gk_ at this;revert this;decide
theorem akw_ {e:E} {must:Int} (h:e.kind=3) (hl:e.kids.length=2) (ht:ak_ e.s<must):wds e must=[40]::(wds e 0++[[41]]):=by
 rw[eb_ h hl,if_pos ht,eb_ h hl,if_neg (by have:=tight_nn e.s;omega)];simp
where
 tight_nn (s:Str):0≤ak_ s:=by unfold ak_;split;decide;split;decide;split<;>decide
theorem gf_ (e:E) (must:Int) (h:must≤4):must≤eff e must:=by unfold eff;split<;>omega
theorem tp_ {n:Nat} {t:Nat} {s:RS} (h:t≠4):b4_ (n+1) t s=dh_ n t (b4_ n (t+1) s).1 (b4_ n (t+1) s).2:=by simp only[b4_];rw[if_neg h]
theorem tk_ {n:Nat} {s:RS}:b4_ (n+1) 4 s=fy_ n s:=by simp only[b4_,if_true]
theorem z5_ {n:Nat} {w:Str} {s:RS} (h:w≠[40]) (h1:a8_ w=true):en_ (n+1) w s=(.mk 1 (am_ w) [] [],s):=by simp[en_,h,h1]
theorem w2_ {n:Nat} {w:Str} {s:RS} (h:w≠[40]) (h1:a8_ w=false) (h2:gi_ w=true):en_ (n+1) w s=(.mk 2 0 w [],s):=by simp[en_,h,h1,h2]
theorem aoy_ {n:Nat} {s:RS} (h:s.bad=false) (h1:s.deep+1≤40) {e:E} {p:RS} (hp:b4_ n 1 { s with deep:=s.deep+1 }=(e,p)) (hb:p.bad=false):en_ (n+1) [40] s=(e,{ a7_ p with bad:=!(br_ p==[41]) }):=by
 simp only[en_,if_true];rw[if_neg (by rw[h];simp;omega)];simp only[hp,hb];rfl
theorem nv_ {n:Nat} {w:Str} {r:List Str} {d:Int}:fy_ (n+1) ⟨w::r,false,d⟩=asR (en_ n w ⟨r,false,d⟩).2 (en_ n w ⟨r,false,d⟩).1:=by simp only[fy_,br_,a7_]
theorem qn_:∀(d:Nat) (e:E),form e d=true→
  (∀(must:Int) (rest:List Str) (deep:Int) (n:Nat),must≤4→eff e must=4→deep+(wds e must).length≤40→10 * ((wds e must).length+rest.length)+2≤n→
   ∃deep',deep'≤deep+(wds e must).length∧fy_ n ⟨wds e must++rest,false,deep⟩=asL rest e deep')∧
  (∀(must:Int) (t:Nat) (rest:List Str) (deep:Int) (n:Nat),must≤4→1≤t→t<4→(t:Int)≤eff e must→okR t rest→deep+(wds e must).length≤40→10 * ((wds e must).length+rest.length)+7≤n+t→
   ∃deep' m,deep'≤deep+(wds e must).length∧10 * rest.length+1≤m∧b4_ n t ⟨wds e must++rest,false,deep⟩=dh_ m t e ⟨rest,false,deep'⟩)
 |0,e,h=>by have:=(aj_ h).1;omega
 |d+1,e,h=>by
  have e1:((d+1:Nat):Int) - 1=(d:Int):=by omega
  -- an unbracketed Two, at its own level
  have two:∀(must:Int) (t:Nat) (rest:List Str) (deep:Int) (n:Nat),e.kind=3→¬ak_ e.s<must→ak_ e.s=t→okR t rest→deep+(wds e must).length≤40→10 * ((wds e must).length+rest.length)+7≤n+t→
    ∃deep' m,deep'≤deep+(wds e must).length∧10 * rest.length+1≤m∧b4_ n t ⟨wds e must++rest,false,deep⟩=dh_ m t e ⟨rest,false,deep'⟩:=by
   intro must t rest deep n k3 hb ht hr hd hn
   rcases (aj_ h).2 with⟨k1,_⟩|⟨k1,_⟩|⟨k1,h1,h2,h3,h4,h5⟩|⟨k1,_⟩
   ·omega
   ·omega
   ·rw[e1]at h4 h5
    obtain⟨_,A⟩:=qn_ d _ h4
    obtain⟨_,B⟩:=qn_ d _ h5
    have ht3:=by_ h2
    have hop:=va_ h2
    rw[eb_ k1 h3,if_neg hb]at hd hn ⊢
    rw[ht]at hd hn ⊢
    simp only[List.length_append,List.length_cons,List.length_nil]at hd hn
    simp only[List.append_assoc,List.cons_append,List.nil_append]
    obtain⟨d1,m,g1,g2,g3⟩:=A (max 2 (t:Int)) t (e.s::(wds (e.kids.getD 1 E0) ((t:Int)+1)++rest)) deep n (by omega) (by omega) (by omega) (by have:=gf_ (e.kids.getD 0 E0) (max 2 (t:Int)) (by omega);omega)
     ⟨by simp only[List.head?_cons,ne_eq,Option.some.injEq];exact hop.1,fun w hw=>by simp only[List.head?_cons,Option.some.injEq]at hw;subst hw;omega⟩ (by omega) (by simp only[List.length_append,List.length_cons];omega)
    rw[g3]
    simp only[List.length_append,List.length_cons]at g2
    obtain⟨m,rfl⟩:∃m',m=m'+1:=⟨m - 1,by omega⟩
    have lp:dh_ (m+1) t (e.kids.getD 0 E0) ⟨e.s::(wds (e.kids.getD 1 E0) ((t:Int)+1)++rest),false,d1⟩=dh_ m t (.mk 3 0 e.s [e.kids.getD 0 E0,(b4_ m (t+1) ⟨wds (e.kids.getD 1 E0) ((t:Int)+1)++rest,false,d1⟩).1]) (b4_ m (t+1) ⟨wds (e.kids.getD 1 E0) ((t:Int)+1)++rest,false,d1⟩).2:=by
     simp only[dh_,br_,a7_];rw[if_pos ⟨trivial,by simp,ht⟩]
    rw[lp]
    have hbk:∃deep',deep'≤d1+(wds (e.kids.getD 1 E0) ((t:Int)+1)).length∧b4_ m (t+1) ⟨wds (e.kids.getD 1 E0) ((t:Int)+1)++rest,false,d1⟩=(e.kids.getD 1 E0,⟨rest,false,deep'⟩):=by
     by_cases h34:t=3
     ·subst h34
      obtain⟨Bh,_⟩:=qn_ d _ h5
      obtain⟨m',rfl⟩:∃m',m=m'+1:=⟨m - 1,by omega⟩
      have ef:eff (e.kids.getD 1 E0) ((3:Nat)+1)=4:=by
       have:=gf_ (e.kids.getD 1 E0) 4 (by omega)
       have h4:eff (e.kids.getD 1 E0) 4≤4:=by
        unfold eff;split
        ·rename_i hh;rcases (aj_ h5).2 with⟨k,_⟩|⟨k,_⟩|⟨k,_,hk,_⟩|⟨k,_⟩
         ·omega
         ·omega
         ·have:=by_ hk;omega
         omega
        omega
       show eff (e.kids.getD 1 E0) 4=4
       omega
      obtain⟨d2,q1,q2⟩:=Bh (((3:Nat):Int)+1) rest d1 m' (by omega) ef (by omega) (by omega)
      refine⟨d2,q1,?_⟩
      rw[tk_,q2,aes_ hr.1]
     obtain⟨d2,m2,q1,q2,q3⟩:=B ((t:Int)+1) (t+1) rest d1 m (by omega) (by omega) (by omega) (by have:=gf_ (e.kids.getD 1 E0) ((t:Int)+1) (by omega);omega) ⟨hr.1,fun w hw=>by have:=hr.2 w hw;omega⟩ (by omega) (by omega)
     refine⟨d2,q1,?_⟩
     rw[q3,i1_ fun w hw=>by have:=hr.2 w hw;omega]
    obtain⟨d2,q1,q2⟩:=hbk
    rw[q2]
    refine⟨d2,m,?_,by omega,?_⟩
    ·simp only[List.length_append,List.length_cons,List.length_nil];omega
    have he:e = .mk 3 0 e.s [e.kids.getD 0 E0,e.kids.getD 1 E0]:=by
     rw[←kk_ h3,←h1,←k1,E.eta]
    rw[←he]
   omega
  have jm_:∀(must:Int) (rest:List Str) (deep:Int) (n:Nat),must≤4→eff e must=4→deep+(wds e must).length≤40→10 * ((wds e must).length+rest.length)+2≤n→
    ∃deep',deep'≤deep+(wds e must).length∧fy_ n ⟨wds e must++rest,false,deep⟩=asL rest e deep':=by
   intro must rest deep n hm he hd hn
   rcases (aj_ h).2 with⟨k1,h1,h2,h3,h4⟩|⟨k1,h1,h2,h3⟩|⟨k1,h1,h2,h3,h4,h5⟩|⟨k1,h1,h2,h3,h4⟩
   ·rw[gn_ k1]at hd hn ⊢
    obtain⟨n,rfl⟩:∃n',n=n'+2:=⟨n - 2,by omega⟩
    obtain⟨g1,g2,g3⟩:=mx_ (n:=e.n.toNat) (by omega)
    refine⟨deep,by simp;omega,?_⟩
    have:(.mk 1 (am_ (Go.Lib.decDigits e.n.toNat):Int) [] []:E)=e:=by
     rw[g2,Int.toNat_of_nonneg h1,←h3,←h4,←k1,h3,h4];conv=>rhs;rw[←E.eta e,h3,h4]
    rw[List.cons_append,List.nil_append,nv_,z5_ g3 g1,this]
    rfl
   ·rw[e1_ k1]at hd hn ⊢
    obtain⟨n,rfl⟩:∃n',n=n'+2:=⟨n - 2,by omega⟩
    obtain⟨g1,g2⟩:=ad2_ h2
    refine⟨deep,by simp;omega,?_⟩
    have:(.mk 2 0 e.s []:E)=e:=by conv=>rhs;rw[←E.eta e,h3,h1,k1]
    rw[List.cons_append,List.nil_append,nv_,w2_ g1 g2 h2,this]
    rfl
   ·have ht3:=by_ h2
    have hb:ak_ e.s<must:=by
     by_cases hh:ak_ e.s<must
     ·exact hh
     unfold eff at he;rw[if_pos ⟨k1,hh⟩]at he;omega
    rw[akw_ k1 h3 hb]at hd hn ⊢
    simp only[List.length_cons,List.length_append,List.length_nil]at hd hn
    obtain⟨n,rfl⟩:∃n',n=n'+2:=⟨n - 2,by omega⟩
    obtain⟨t,ht⟩:∃t:Nat,ak_ e.s=t:=⟨(ak_ e.s).toNat,by omega⟩
    -- level 1 inside
    have inner:∃d1 m,d1≤deep+1+(wds e 0).length∧1≤m∧b4_ n 1 ⟨wds e 0++[41]::rest,false,deep+1⟩=dh_ m 1 e ⟨[41]::rest,false,d1⟩:=by
     have hr:∀t,okR t ([41]::rest):=fun t=>⟨by simp[wAs],fun w hw=>by simp at hw;subst hw;simp[ak_]⟩
     have up:∀k:Nat,k<t→∀n,10 * ((wds e 0).length+(rest.length+1))+7≤n+(t - k)→∃d1 m,d1≤deep+1+(wds e 0).length∧1≤m∧b4_ n (t - k) ⟨wds e 0++[41]::rest,false,deep+1⟩=dh_ m (t - k) e ⟨[41]::rest,false,d1⟩:=by
      intro k
      induction k with
      |zero=>
       intro _ n hn
       obtain⟨d1,m,q1,q2,q3⟩:=two 0 t ([41]::rest) (deep+1) n k1 (by omega) ht (hr t) (by omega) (by simp only[List.length_cons];omega)
       exact⟨d1,m,q1,by simp only[List.length_cons]at q2;omega,q3⟩
      |succ k ih=>
       intro hk n hn
       obtain⟨n,rfl⟩:∃n',n=n'+1:=⟨n - 1,by omega⟩
       obtain⟨d1,m,q1,q2,q3⟩:=ih (by omega) n (by omega)
       refine⟨d1,n,q1,by omega,?_⟩
       rw[tp_ (by omega),show t - (k+1)+1=t - k by omega,q3,i1_ fun w hw=>by simp at hw;subst hw;simp[ak_];omega]
     have:=up (t - 1) (by omega) n (by omega)
     rwa [show t - (t - 1)=1 by omega]at this
    obtain⟨d1,m,q1,q2,q3⟩:=inner
    rw[i1_ fun w hw=>by simp at hw;subst hw;simp[ak_]]at q3
    refine⟨d1,by simp only[List.length_cons,List.length_append,List.length_nil];omega,?_⟩
    rw[List.cons_append,nv_,List.append_assoc]
    rw[aoy_ (s:=⟨wds e 0++([[41]]++rest),false,deep⟩) rfl (by dsimp only;omega) q3 rfl]
    rfl
   rw[e1]at h4
   obtain⟨A,_⟩:=qn_ d _ h4
   have ef:eff (e.kids.getD 0 E0) 4=4:=by
    have:=gf_ (e.kids.getD 0 E0) 4 (by omega)
    have h4':eff (e.kids.getD 0 E0) 4≤4:=by
     unfold eff;split
     ·rename_i hh;rcases (aj_ h4).2 with⟨k,_⟩|⟨k,_⟩|⟨k,_,hk,_⟩|⟨k,_⟩
      ·omega
      ·omega
      ·have:=by_ hk;omega
      omega
     omega
    omega
   rw[i0_ k1 h3]at hd hn ⊢
   simp only[List.length_cons,List.length_append,List.length_nil]at hd hn
   obtain⟨d1,q1,q2⟩:=A 4 (wAs::e.s::rest) deep n (by omega) ef (by omega) (by simp only[List.length_cons];omega)
   refine⟨d1,by simp only[List.length_cons,List.length_append,List.length_nil];omega,?_⟩
   rw[List.append_assoc]
   have hE:(.mk 4 0 e.s [e.kids.getD 0 E0]:E)=e:=by conv=>rhs;rw[←E.eta e,xc_ h3,h1,k1]
   refine q2.trans ?_
   simp only[asL,if_true]
   rw[hE]
  refine⟨jm_,?_⟩
  -- from the own level down to t
  intro must t rest deep n hm ht1 ht4 ht hr hd hn
  have hk:∀k:Nat,t+k≤4→((t+k:Nat):Int)=eff e must→∃deep' m,deep'≤deep+(wds e must).length∧10 * rest.length+1≤m∧b4_ n t ⟨wds e must++rest,false,deep⟩=dh_ m t e ⟨rest,false,deep'⟩:=by
   intro k
   induction k generalizing t n with
   |zero=>
    intro _ hef
    rcases (aj_ h).2 with⟨k1,_⟩|⟨k1,_⟩|⟨k1,h1,h2,h3,h4,h5⟩|⟨k1,_⟩
    ·unfold eff at hef;rw[if_neg (by omega)]at hef;omega
    ·unfold eff at hef;rw[if_neg (by omega)]at hef;omega
    ·unfold eff at hef
     by_cases hb:ak_ e.s<must
     ·rw[if_neg (by omega)]at hef;omega
     rw[if_pos ⟨k1,hb⟩]at hef
     exact two must t rest deep n k1 hb (by omega) hr hd hn
    unfold eff at hef;rw[if_neg (by omega)]at hef;omega
   |succ k ih=>
    intro h4 hef
    obtain⟨n,rfl⟩:∃n',n=n'+1:=⟨n - 1,by omega⟩
    by_cases h34:t=3
    ·subst h34
     obtain⟨n,rfl⟩:∃n',n=n'+1:=⟨n - 1,by omega⟩
     obtain⟨d1,q1,q2⟩:=jm_ must rest deep n hm (by omega) hd (by omega)
     refine⟨d1,n+1,q1,by omega,?_⟩
     rw[tp_ (by omega),tk_,q2,aes_ hr.1]
    obtain⟨d1,m,q1,q2,q3⟩:=ih (t+1) n (by omega) (by omega) (by omega) ⟨hr.1,fun w hw=>by have:=hr.2 w hw;omega⟩ (by omega) (by omega) (by omega)
    refine⟨d1,n,q1,by omega,?_⟩
    rw[tp_ (by omega),q3,i1_ fun w hw=>by have:=hr.2 w hw;omega]
  have heff:eff e must≤4:=by
   unfold eff;split
   ·rename_i hh;rcases (aj_ h).2 with⟨k,_⟩|⟨k,_⟩|⟨k,_,hk,_⟩|⟨k,_⟩
    ·omega
    ·omega
    ·have:=by_ hk;omega
    omega
   omega
  exact hk (eff e must - t).toNat (by omega) (by omega)
theorem a1f_ {e:E} (h:eok e=true) (hl:(wds e 1).length≤40) {n:Nat} (hn:410≤n):∃deep',b4_ n 1 ⟨wds e 1,false,0⟩=(e,⟨[],false,deep'⟩):=by
 have he:1≤eff e 1:=gf_ e 1 (by omega)
 obtain⟨d1,m,q1,q2,q3⟩:=(qn_ 5 e (ao_ h)).2 1 1 [] 0 n (by omega) (by omega) (by omega) he ⟨by simp,fun w hw=>by simp at hw⟩ (by omega) (by simp;omega)
 rw[List.append_nil]at q3
 exact⟨d1,by rw[q3,i1_ fun w hw=>by simp at hw]⟩
end
section
theorem r9_ (c:UInt8):b1_ c=true↔gk_ c:=nd_ c
theorem qc_ (l:Str):((f7_ l).2&&(decide (0≤(f7_ l).1)&&decide ((f7_ l).1≤1000000)))=a8_ l∧(a8_ l=true→(f7_ l).1=am_ l):=by
 have key:a8_ l=true→(f7_ l).2=true∧(f7_ l).1=am_ l:=fun h=>by
  obtain⟨n,hn,rfl⟩:=do_.1 h
  have hd:=c6_ n
  have hlen:=ns_ hn
  have hh:(Go.Lib.decDigits n).head?≠some 45:=fun e=>by
   have:=hd 45 (List.mem_of_mem_head? (by rw[e];rfl));unfold gk_ at this;revert this;decide
  have hz:(Go.Lib.decDigits n).head? = some 48→(Go.Lib.decDigits n).length≤1:=fun e=>by
   by_cases h:n<10
   ·rw[Go.Lib.decDigits_one h];simp
   exfalso;exact dec_lead n (by omega) e
  have hne:(Go.Lib.decDigits n).length≠0:=fun e=>fd_ n (List.eq_nil_of_length_eq_zero e)
  unfold f7_
  simp only[show((Go.Lib.decDigits n).head?==some 45)=false by simpa using hh,Bool.false_eq_true,if_false,or_false]
  rw[if_neg (by rintro(h|h|⟨h1,h2⟩);exact hne h;omega;have:=hz h1;omega),if_pos (List.all_eq_true.2 fun c hc=>(r9_ c).2 (hd c hc))]
  exact⟨rfl,rfl⟩
 refine⟨?_,fun h=>(key h).2⟩
 cases h:a8_ l with
 |true=>
  obtain⟨h1,h2⟩:=key h
  obtain⟨n,hn,rfl⟩:=do_.1 h
  rw[h1,h2,d1_];simp;omega
 |false=>
  rw[Bool.eq_false_iff]
  intro hh
  rw[Bool.eq_false_iff]at h
  apply h
  simp only[Bool.and_eq_true,decide_eq_true_eq]at hh
  obtain⟨h1,h2,h3⟩:=hh
  unfold f7_ at h1 h2 h3
  cases hneg:(l.head?==some 45)with
  |true=>
   exfalso
   simp only[hneg,if_true]at h1 h2 h3
   split at h1
   ·cases h1
   rename_i hc
   rw[if_neg hc]at h2 h3
   split at h1
   ·rename_i hall
    rw[if_pos hall]at h2 h3
    have hd:∀c∈l.tail,gk_ c:=fun c hc=>(r9_ c).1 (List.all_eq_true.1 hall c hc)
    have hne:l.tail≠[]:=fun e=>hc (.inl (by rw[e];rfl))
    have:=(lead hne hd (fun e=>hc (.inr (.inr ⟨e,.inr trivial⟩)))).1
    omega
   cases h1
  |false=>
   simp only[hneg,Bool.false_eq_true,if_false,or_false]at h1 h2 h3
   split at h1
   ·cases h1
   rename_i hc
   rw[if_neg hc]at h2 h3
   split at h1
   ·rename_i hall
    rw[if_pos hall]at h2 h3
    have hd:∀c∈l,gk_ c:=fun c hc=>(r9_ c).1 (List.all_eq_true.1 hall c hc)
    have hne:l≠[]:=fun e=>hc (.inl (by rw[e];rfl))
    refine do_.2 ⟨am_ l,by omega,?_⟩
    by_cases h0:l.head? = some 48
    ·have:¬1<l.length:=fun h=>hc (.inr (.inr ⟨h0,h⟩))
     match l,h0,this,hne with
     |[c],h0,_,_=>simp at h0;subst h0;rw[show am_ [48]=0 from rfl,Go.Lib.decDigits_one (by decide)];rfl
     |_::_::_,_,h,_=>simp at h
    exact(lead hne hd h0).2.symm
   cases h1
where
 dec_lead (n:Nat) (h:1≤n):(Go.Lib.decDigits n).head?≠some 48:=by
  induction n using Nat.strongRecOn with
  |ind n ih=>
   by_cases h1:n<10
   ·rw[Go.Lib.decDigits_one h1]
    simp only[List.head?_cons,ne_eq,Option.some.injEq]
    intro e
    have:=vb_ h1
    rw[e]at this
    have e2:(48:UInt8).toNat=48:=rfl
    omega
   rw[co_ h1]
   have:=ih (n / 10) (by omega) (by omega)
   cases hl:Go.Lib.decDigits (n / 10)with
   |nil=>exact absurd hl (fd_ _)
   |cons c r=>rw[hl]at this;simpa using this
def sAs:Nat→List Str→Nat→E→E × Option Nat
 |0,_,_,e=>(e,none)
 |n+1,w,k,e=>if w.getD k []=wAs then(if ey_ (w.getD (k+1) [])then sAs n w (k+2) (.mk 4 0 (w.getD (k+1) []) [e])else(e,none))else(e,some k)
mutual
def e2_:Nat→List Str→Nat→Int→E × Option Nat
 |0,_,_,_=>(E0,none)
 |n+1,w,k,deep=>
  if a8_ (w.getD k [])then sAs n w (k+1) (.mk 1 (am_ (w.getD k [])) [] [])
  else if gi_ (w.getD k [])then sAs n w (k+1) (.mk 2 0 (w.getD k []) [])
  else if w.getD k []=[40]∧0<deep then
   match (sL1 n w (k+1) (deep - 1)).2 with
   |none=>((sL1 n w (k+1) (deep - 1)).1,none)
   |some b=>if w.getD b []=[41]then sAs n w (b+1) (sL1 n w (k+1) (deep - 1)).1 else((sL1 n w (k+1) (deep - 1)).1,none)
  else(E0,none)
def sLp:Nat→List Str→Nat→Nat→Int→E × Option Nat
 |0,_,_,_,_=>(E0,none)
 |n+1,w,k,t,deep=>if 3<t then e2_ n w k deep else e0_ n w t deep (sLp n w k (t+1) deep).1 (sLp n w k (t+1) deep).2
def e0_:Nat→List Str→Nat→Int→E→Option Nat→E × Option Nat
 |0,_,_,_,e,_=>(e,none)
 |_+1,_,_,_,e,none=>(e,none)
 |n+1,w,t,deep,e,some k=>if ak_ (w.getD k [])=t then e0_ n w t deep (.mk 3 0 (w.getD k []) [e,(sLp n w (k+1) (t+1) deep).1]) (sLp n w (k+1) (t+1) deep).2 else(e,some k)
def sL1:Nat→List Str→Nat→Int→E × Option Nat
 |0,_,_,_=>(E0,none)
 |n+1,w,k,deep=>
  match (sLp n w k 2 deep).2 with
  |none=>((sLp n w k 2 deep).1,none)
  |some b=>if w.getD b []=[60]then(.mk 3 0 [60] [(sLp n w k 2 deep).1,(sLp n w (b+1) 2 deep).1],(sLp n w (b+1) 2 deep).2)else((sLp n w k 2 deep).1,some b)
end
theorem io_ {w l:List Str} {k:Nat} {s:Str} (h:w.drop k=s::l):w.getD k []=s∧w.drop (k+1)=l:=by
 have hk:k<w.length:=by
  rcases Nat.lt_or_ge k w.length with h1|h1
  ·exact h1
  rw[List.drop_of_length_le h1]at h;cases h
 rw[List.drop_eq_getElem_cons hk]at h
 injection h with h1 h2
 exact⟨by rw[List.getD_eq_getElem?_getD,List.getElem?_eq_getElem hk];exact h1,h2⟩
theorem aco_ {w l:List Str} {k:Nat} (h:w.drop k=l):w.getD k []=l.headD []:=by
 cases l with
 |nil=>
  have:w.length≤k:=by simpa using h
  simp[List.getD_eq_getElem?_getD,List.getElem?_eq_none this]
 |cons s l=>exact(io_ h).1
theorem du_ {w a l:List Str} {k:Nat} (h:w.drop k=a++l):w.drop (k+a.length)=l:=by
 rw[←List.drop_drop,h];simp
theorem afi_ {n:Nat} {w:List Str} {k:Nat} {e:E} {rest:List Str} (hk:w.drop k=rest) (h:rest.head?≠some wAs):sAs (n+1) w k e=(e,some k):=by
 simp only[sAs]
 rw[if_neg]
 rw[aco_ hk]
 cases rest with
 |nil=>decide
 |cons a r=>simpa using h
theorem f3_ {w:List Str} {k:Nat} {rest:List Str} (hk:w.drop k=rest) {P:Int→Prop} (h0:P 0) (h:∀x,rest.head? = some x→P (ak_ x)):P (ak_ (w.getD k [])):=by
 rw[aco_ hk]
 cases rest with
 |nil=>exact h0
 |cons a r=>exact h a rfl
theorem e7_ {n:Nat} {w:List Str} {t:Nat} {deep:Int} {e:E} {k:Nat} (h:ak_ (w.getD k [])≠t):e0_ (n+1) w t deep e (some k)=(e,some k):=by
 simp only[e0_];rw[if_neg h]
theorem anv_ {s:Str} (h:ak_ s=1):s=[60]:=by
 unfold ak_ at h
 by_cases h1:s=[60]
 ·exact h1
 by_cases h2:s=[43]∨s=[45]
 ·rcases h2 with rfl|rfl<;>simp at h
 by_cases h3:s=[42]
 ·subst h3;simp at h
 simp[h1,h3]at h;simp_all
theorem ahu_ {e:E} {d must:Int} (h:form e d=true):eff e must≤4:=by
 unfold eff;split
 ·rename_i hh;rcases (aj_ h).2 with⟨k,_⟩|⟨k,_⟩|⟨k,_,hk,_⟩|⟨k,_⟩
  ·omega
  ·omega
  ·have:=by_ hk;omega
  omega
 omega
theorem x5_ {n:Nat} {w:List Str} {k:Nat} {deep:Int} (h:a8_ (w.getD k [])=true):e2_ (n+1) w k deep=sAs n w (k+1) (.mk 1 (am_ (w.getD k [])) [] []):=by simp only[e2_,h,if_true]
theorem uv_ {n:Nat} {w:List Str} {k:Nat} {deep:Int} (h:a8_ (w.getD k [])=false) (h2:gi_ (w.getD k [])=true):e2_ (n+1) w k deep=sAs n w (k+1) (.mk 2 0 (w.getD k []) []):=by simp only[e2_,h,h2,if_true,Bool.false_eq_true,if_false]
theorem zp_ {n:Nat} {w:List Str} {k b:Nat} {deep:Int} {x:E} (h:w.getD k []=[40]) (hd:0<deep) (hx:sL1 n w (k+1) (deep - 1)=(x,some b)) (hb:w.getD b []=[41]):e2_ (n+1) w k deep=sAs n w (b+1) x:=by
 have h1:a8_ [40]=false:=by
  rw[Bool.eq_false_iff];intro h
  obtain⟨n,hn,h⟩:=do_.1 h
  exact(mx_ hn).2.2 h.symm
 have h2:gi_ [40]=false:=by decide
 simp only[e2_,h,h1,h2,Bool.false_eq_true,if_false,hx,hb,if_true,true_and]
 rw[if_pos hd]
theorem m8_ (w:List Str):∀(d:Nat) (e:E),form e d=true→
  (∀(must:Int) (rest:List Str) (k:Nat) (deep:Int) (n:Nat),must≤4→eff e must=4→d≤deep→w.drop k=wds e must++rest→10 * ((wds e must).length+rest.length)+2≤n→
   ∃m,rest.length+1≤m∧e2_ n w k deep=sAs m w (k+(wds e must).length) e)∧
  (∀(must:Int) (t:Nat) (rest:List Str) (k:Nat) (deep:Int) (n:Nat),must≤4→2≤t→t<4→(t:Int)≤eff e must→okR t rest→d≤deep→w.drop k=wds e must++rest→10 * ((wds e must).length+rest.length)+7≤n+t→
   ∃m,10 * rest.length+1≤m∧sLp n w k t deep=e0_ m w t deep e (some (k+(wds e must).length)))∧
  (∀(rest:List Str) (k:Nat) (deep:Int) (n:Nat),e.kind=3→okR 0 rest→(d:Int)≤deep+1→w.drop k=wds e 0++rest→10 * ((wds e 0).length+rest.length)+7≤n→
   sL1 n w k deep=(e,some (k+(wds e 0).length)))
 |0,e,h=>by have:=(aj_ h).1;omega
 |d+1,e,h=>by
  have e1:((d+1:Nat):Int) - 1=(d:Int):=by omega
  have two:∀(must:Int) (t:Nat) (rest:List Str) (k:Nat) (deep:Int) (n:Nat),e.kind=3→¬ak_ e.s<must→ak_ e.s=t→2≤t→okR t rest→d≤deep→w.drop k=wds e must++rest→10 * ((wds e must).length+rest.length)+7≤n+t→
    ∃m,10 * rest.length+1≤m∧sLp n w k t deep=e0_ m w t deep e (some (k+(wds e must).length)):=by
   intro must t rest k deep n k3 hb ht ht2 hr hd hk hn
   rcases (aj_ h).2 with⟨k1,_⟩|⟨k1,_⟩|⟨k1,h1,h2,h3,h4,h5⟩|⟨k1,_⟩
   ·omega
   ·omega
   ·rw[e1]at h4 h5
    have A:=(m8_ w d _ h4).2.1
    have B:=m8_ w d _ h5
    have ht3:=by_ h2
    have hop:=va_ h2
    rw[eb_ k1 h3,if_neg hb]at hk hn ⊢
    rw[ht]at hk hn ⊢
    rw[show max 2 (t:Int)=t by omega]at hk hn ⊢
    simp only[List.length_append,List.length_cons,List.length_nil]at hn ⊢
    simp only[List.append_assoc,List.cons_append,List.nil_append]at hk
    obtain⟨m,g2,g3⟩:=A (t:Int) t (e.s::(wds (e.kids.getD 1 E0) ((t:Int)+1)++rest)) k deep n (by omega) (by omega) (by omega) (gf_ (e.kids.getD 0 E0) (t:Int) (by omega))
     ⟨by simp only[List.head?_cons,ne_eq,Option.some.injEq];exact hop.1,fun w hw=>by simp only[List.head?_cons,Option.some.injEq]at hw;subst hw;omega⟩ hd hk (by simp only[List.length_append,List.length_cons];omega)
    rw[g3]
    simp only[List.length_append,List.length_cons]at g2
    obtain⟨m,rfl⟩:∃m',m=m'+1:=⟨m - 1,by omega⟩
    obtain⟨q1,q2⟩:=io_ (du_ hk)
    have hmm:10 * ((wds (e.kids.getD 1 E0) ((t:Int)+1)).length+rest.length)+10≤m:=by omega
    have hbk:sLp m w (k+(wds (e.kids.getD 0 E0) t).length+1) (t+1) deep=(e.kids.getD 1 E0,some (k+(wds (e.kids.getD 0 E0) t).length+1+(wds (e.kids.getD 1 E0) ((t:Int)+1)).length)):=by
     by_cases h34:t=3
     ·subst h34
      obtain⟨m',rfl⟩:∃m',m=m'+1:=⟨m - 1,by omega⟩
      have ef:eff (e.kids.getD 1 E0) ((3:Nat)+1)=4:=by
       have h1:=gf_ (e.kids.getD 1 E0) 4 (by omega)
       have h2:=ahu_ (must:=4) h5
       show eff (e.kids.getD 1 E0) 4=4
       omega
      obtain⟨m2,r1,r2⟩:=B.1 (((3:Nat):Int)+1) rest _ deep m' (by omega) ef hd q2 (by omega)
      obtain⟨m2,rfl⟩:∃m',m2=m'+1:=⟨m2 - 1,by omega⟩
      simp only[sLp]
      rw[if_pos (by omega),r2,afi_ (du_ q2) hr.1]
     obtain⟨m2,r1,r2⟩:=B.2.1 ((t:Int)+1) (t+1) rest _ deep m (by omega) (by omega) (by omega) (by have:=gf_ (e.kids.getD 1 E0) ((t:Int)+1) (by omega);omega) ⟨hr.1,fun w hw=>by have:=hr.2 w hw;omega⟩ hd q2 (by omega)
     obtain⟨m2,rfl⟩:∃m',m2=m'+1:=⟨m2 - 1,by omega⟩
     rw[r2,e7_]
     exact f3_ (P:=fun x=>x≠((t+1:Nat):Int)) (du_ q2) (by omega) fun x hx=>by have:=hr.2 x hx;omega
    refine⟨m,by omega,?_⟩
    have he:e = .mk 3 0 e.s [e.kids.getD 0 E0,e.kids.getD 1 E0]:=by
     rw[←kk_ h3,←h1,←k1,E.eta]
    simp only[e0_]
    rw[q1,if_pos ht,hbk,←he]
    exact congrArg (fun x=>e0_ m w t deep e (some x)) (by omega)
   omega
  -- level 1, without brackets
  have one:∀(rest:List Str) (k:Nat) (deep:Int) (n:Nat),e.kind=3→okR 0 rest→d≤deep→w.drop k=wds e 0++rest→10 * ((wds e 0).length+rest.length)+7≤n→
    sL1 n w k deep=(e,some (k+(wds e 0).length)):=by
   intro rest k deep n k3 hr hd hk hn
   rcases (aj_ h).2 with⟨k1,_⟩|⟨k1,_⟩|⟨k1,h1,h2,h3,h4,h5⟩|⟨k1,_⟩
   ·omega
   ·omega
   ·have ht3:=by_ h2
    obtain⟨n,rfl⟩:∃n',n=n'+1:=⟨n - 1,by omega⟩
    by_cases ht1:ak_ e.s=1
    ·rw[e1]at h4 h5
     have A:=(m8_ w d _ h4).2.1
     have B:=(m8_ w d _ h5).2.1
     have hs:=anv_ ht1
     rw[eb_ k1 h3,if_neg (by omega),ht1]at hk hn ⊢
     simp only[List.length_append,List.length_cons,List.length_nil]at hn ⊢
     simp only[List.append_assoc,List.cons_append,List.nil_append]at hk
     obtain⟨m,g2,g3⟩:=A 2 2 (e.s::(wds (e.kids.getD 1 E0) (1+1)++rest)) k deep n (by omega) (by omega) (by omega) (gf_ (e.kids.getD 0 E0) 2 (by omega))
      ⟨by simp only[List.head?_cons,ne_eq,Option.some.injEq];exact(va_ h2).1,fun w hw=>by simp only[List.head?_cons,Option.some.injEq]at hw;subst hw;omega⟩ hd hk (by
       simp only[List.length_append,List.length_cons]
       have:max 2 (1:Int)=2:=rfl
       rw[this]at hn;omega)
     have e3:max 2 (1:Int)=2:=rfl
     rw[e3]at hk ⊢
     obtain⟨m,rfl⟩:∃m',m=m'+1:=⟨m - 1,by omega⟩
     obtain⟨q1,q2⟩:=io_ (du_ hk)
     rw[e7_ (by rw[q1];omega)]at g3
     obtain⟨m2,r1,r2⟩:=B 2 2 rest _ deep n (by omega) (by omega) (by omega) (gf_ (e.kids.getD 1 E0) 2 (by omega)) ⟨hr.1,fun w hw=>by have:=hr.2 w hw;omega⟩ hd q2 (by rw[e3]at hn;have:(wds (e.kids.getD 1 E0) 2).length=(wds (e.kids.getD 1 E0) (1+1)).length:=rfl;omega)
     obtain⟨m2,rfl⟩:∃m',m2=m'+1:=⟨m2 - 1,by omega⟩
     have hstop:ak_ (w.getD (k+(wds (e.kids.getD 0 E0) 2).length+1+(wds (e.kids.getD 1 E0) 2).length) [])≠((2:Nat):Int):=
      f3_ (P:=fun x=>x≠((2:Nat):Int)) (du_ q2) (by omega) fun x hx=>by have:=hr.2 x hx;omega
     rw[e7_ hstop]at r2
     have he:e = .mk 3 0 [60] [e.kids.getD 0 E0,e.kids.getD 1 E0]:=by
      rw[←kk_ h3,←hs,←h1,←k1,E.eta]
     simp only[sL1,g3,q1,hs,if_true,r2,←he]
     exact congrArg (fun x=>(e,some x)) (by show k+(wds (e.kids.getD 0 E0) 2).length+1+(wds (e.kids.getD 1 E0) 2).length=k+((wds (e.kids.getD 0 E0) 2).length+(0+1)+(wds (e.kids.getD 1 E0) 2).length);omega)
    ·
     obtain⟨t,ht⟩:∃t:Nat,ak_ e.s=t:=⟨(ak_ e.s).toNat,by omega⟩
     have h20:∃m,1≤m∧sLp n w k 2 deep=e0_ m w 2 deep e (some (k+(wds e 0).length)):=by
      by_cases h2t:t=2
      ·subst h2t
       obtain⟨m,r1,r2⟩:=two 0 2 rest k deep n k1 (by omega) ht (by omega) ⟨hr.1,fun w hw=>by have:=hr.2 w hw;omega⟩ hd hk (by omega)
       exact⟨m,by omega,r2⟩
      have h3t:t=3:=by omega
      subst h3t
      obtain⟨n,rfl⟩:∃n',n=n'+1:=⟨n - 1,by omega⟩
      obtain⟨m,r1,r2⟩:=two 0 3 rest k deep n k1 (by omega) ht (by omega) ⟨hr.1,fun w hw=>by have:=hr.2 w hw;omega⟩ hd hk (by omega)
      obtain⟨m,rfl⟩:∃m',m=m'+1:=⟨m - 1,by omega⟩
      refine⟨n,by omega,?_⟩
      simp only[sLp]
      rw[if_neg (by omega),r2,e7_]
      exact f3_ (P:=fun x=>x≠((3:Nat):Int)) (du_ hk) (by omega) fun x hx=>by have:=hr.2 x hx;omega
     obtain⟨m,r1,r2⟩:=h20
     obtain⟨m,rfl⟩:∃m',m=m'+1:=⟨m - 1,by omega⟩
     rw[e7_ (f3_ (P:=fun x=>x≠((2:Nat):Int)) (du_ hk) (by omega) fun x hx=>by have:=hr.2 x hx;omega)]at r2
     have hlt:w.getD (k+(wds e 0).length) []≠[60]:=fun e60=>by
      have:=f3_ (P:=fun x=>x≤0) (du_ hk) (by omega) fun x hx=>by have:=hr.2 x hx;omega
      rw[e60]at this;revert this;decide
     simp only[sL1,r2,hlt,if_false]
   omega
  have jm_:∀(must:Int) (rest:List Str) (k:Nat) (deep:Int) (n:Nat),must≤4→eff e must=4→((d+1:Nat):Int)≤deep→w.drop k=wds e must++rest→10 * ((wds e must).length+rest.length)+2≤n→
    ∃m,rest.length+1≤m∧e2_ n w k deep=sAs m w (k+(wds e must).length) e:=by
   intro must rest k deep n hm he hd hk hn
   rcases (aj_ h).2 with⟨k1,h1,h2,h3,h4⟩|⟨k1,h1,h2,h3⟩|⟨k1,h1,h2,h3,h4,h5⟩|⟨k1,h1,h2,h3,h4⟩
   ·rw[gn_ k1]at hk hn ⊢
    obtain⟨n,rfl⟩:∃n',n=n'+1:=⟨n - 1,by omega⟩
    obtain⟨g1,g2,g3⟩:=mx_ (n:=e.n.toNat) (by omega)
    obtain⟨q1,q2⟩:=io_ hk
    refine⟨n,by simp at hn;omega,?_⟩
    have:(.mk 1 (am_ (Go.Lib.decDigits e.n.toNat):Int) [] []:E)=e:=by
     rw[g2,Int.toNat_of_nonneg h1];conv=>rhs;rw[←E.eta e,h3,h4,k1]
    rw[x5_ (by rw[q1];exact g1),q1,this];rfl
   ·rw[e1_ k1]at hk hn ⊢
    obtain⟨n,rfl⟩:∃n',n=n'+1:=⟨n - 1,by omega⟩
    obtain⟨g1,g2⟩:=ad2_ h2
    obtain⟨q1,q2⟩:=io_ hk
    refine⟨n,by simp at hn;omega,?_⟩
    have:(.mk 2 0 e.s []:E)=e:=by conv=>rhs;rw[←E.eta e,h3,h1,k1]
    rw[uv_ (by rw[q1];exact g2) (by rw[q1];exact h2),q1,this];rfl
   ·have ht3:=by_ h2
    have hb:ak_ e.s<must:=by
     by_cases hh:ak_ e.s<must
     ·exact hh
     unfold eff at he;rw[if_pos ⟨k1,hh⟩]at he;omega
    rw[akw_ k1 h3 hb]at hk hn ⊢
    simp only[List.length_cons,List.length_append,List.length_nil]at hn ⊢
    obtain⟨n,rfl⟩:∃n',n=n'+1:=⟨n - 1,by omega⟩
    rw[List.cons_append,List.append_assoc]at hk
    obtain⟨q1,q2⟩:=io_ hk
    have inner:=one ([[41]]++rest) (k+1) (deep - 1) n k1 ⟨by simp[wAs],fun w hw=>by simp at hw;subst hw;simp[ak_]⟩ (by omega) q2 (by simp;omega)
    obtain⟨q3,q4⟩:=io_ (du_ q2)
    refine⟨n,by omega,?_⟩
    rw[zp_ q1 (by omega) inner q3]
    congr 1;omega
   rw[e1]at h4
   have A:=(m8_ w d _ h4).1
   have ef:eff (e.kids.getD 0 E0) 4=4:=by
    have h1:=gf_ (e.kids.getD 0 E0) 4 (by omega)
    have h2:=ahu_ (must:=4) h4
    omega
   rw[i0_ k1 h3]at hk hn ⊢
   simp only[List.length_cons,List.length_append,List.length_nil]at hn ⊢
   rw[List.append_assoc]at hk
   obtain⟨m,r1,r2⟩:=A 4 ([[97,115],e.s]++rest) k deep n (by omega) ef (by omega) hk (by simp only[List.length_cons,List.length_append,List.length_nil];omega)
   simp only[List.length_cons,List.length_append,List.length_nil]at r1
   obtain⟨m,rfl⟩:∃m',m=m'+1:=⟨m - 1,by omega⟩
   obtain⟨q1,q2⟩:=io_ (du_ hk)
   obtain⟨q3,q4⟩:=io_ q2
   refine⟨m,by omega,?_⟩
   have hE:(.mk 4 0 e.s [e.kids.getD 0 E0]:E)=e:=by conv=>rhs;rw[←E.eta e,xc_ h3,h1,k1]
   rw[r2]
   simp only[sAs]
   rw[q1,if_pos (by rfl),q3,if_pos h2,hE];rfl
  refine⟨jm_,?_,fun rest k deep n h1 h2 h3 h4 h5=>one rest k deep n h1 h2 (by omega) h4 h5⟩
  intro must t rest k deep n hm ht1 ht4 ht hr hd hk hn
  have hkk:∀j:Nat,t+j≤4→((t+j:Nat):Int)=eff e must→∃m,10 * rest.length+1≤m∧sLp n w k t deep=e0_ m w t deep e (some (k+(wds e must).length)):=by
   intro j
   induction j generalizing t n with
   |zero=>
    intro _ hef
    rcases (aj_ h).2 with⟨k1,_⟩|⟨k1,_⟩|⟨k1,h1,h2,h3,h4,h5⟩|⟨k1,_⟩
    ·unfold eff at hef;rw[if_neg (by omega)]at hef;omega
    ·unfold eff at hef;rw[if_neg (by omega)]at hef;omega
    ·unfold eff at hef
     by_cases hb:ak_ e.s<must
     ·rw[if_neg (by omega)]at hef;omega
     rw[if_pos ⟨k1,hb⟩]at hef
     exact two must t rest k deep n k1 hb (by omega) ht1 hr (by omega) hk hn
    unfold eff at hef;rw[if_neg (by omega)]at hef;omega
   |succ j ih=>
    intro h4 hef
    obtain⟨n,rfl⟩:∃n',n=n'+1:=⟨n - 1,by omega⟩
    by_cases h34:t=3
    ·subst h34
     obtain⟨n,rfl⟩:∃n',n=n'+1:=⟨n - 1,by omega⟩
     obtain⟨m,q1,q2⟩:=jm_ must rest k deep n hm (by omega) hd hk (by omega)
     obtain⟨m,rfl⟩:∃m',m=m'+1:=⟨m - 1,by omega⟩
     refine⟨n+1,by omega,?_⟩
     have e4:sLp (n+1) w k (3+1) deep=(e,some (k+(wds e must).length)):=by
      simp only[sLp];rw[if_pos (by omega),q2,afi_ (du_ hk) hr.1]
     rw[sLp,if_neg (by omega),e4]
    obtain⟨m,q1,q2⟩:=ih (t+1) n (by omega) (by omega) (by omega) ⟨hr.1,fun w hw=>by have:=hr.2 w hw;omega⟩ (by omega) (by omega) (by omega)
    obtain⟨m,rfl⟩:∃m',m=m'+1:=⟨m - 1,by omega⟩
    refine⟨n,by omega,?_⟩
    rw[e7_ (f3_ (P:=fun x=>x≠((t+1:Nat):Int)) (du_ hk) (by omega) fun x hx=>by have:=hr.2 x hx;omega)]at q2
    rw[sLp,if_neg (by omega),q2]
  have heff:=ahu_ (must:=must) h
  exact hkk (eff e must - t).toNat (by omega) (by omega)
theorem a19_ {e:E} (h:eok e=true) (hl:(wds e 1).length≤40) {n:Nat} (hn:410≤n):sL1 n (wds e 1) 0 5=(e,some (wds e 1).length):=by
 have A:=m8_ (wds e 1) 5 e (ao_ h)
 have hk:(wds e 1).drop 0=wds e 1++[]:=by simp
 obtain⟨n,rfl⟩:∃n',n=n'+1:=⟨n - 1,by omega⟩
 by_cases he:2≤eff e 1
 ·obtain⟨m,q1,q2⟩:=A.2.1 1 2 [] 0 5 n (by omega) (by omega) (by omega) he ⟨by simp,fun w hw=>by simp at hw⟩ (by omega) hk (by simp;omega)
  obtain⟨m,rfl⟩:∃m',m=m'+1:=⟨m - 1,by omega⟩
  rw[e7_ (f3_ (P:=fun x=>x≠((2:Nat):Int)) (du_ hk) (by omega) fun x hx=>by simp at hx)]at q2
  have hlt:(wds e 1).getD (0+(wds e 1).length) []≠[60]:=by rw[aco_ (du_ hk)];decide
  rw[Nat.zero_add]at q2 hlt
  simp only[sL1,q2,hlt,if_false]
 have k3:e.kind=3∧¬ak_ e.s<1:=by unfold eff at he;by_cases hh:e.kind=3∧¬ak_ e.s<1;exact hh;rw[if_neg hh]at he;omega
 have:=A.2.2 [] 0 5 (n+1) k3.1 ⟨by simp,fun w hw=>by simp at hw⟩ (by omega) (by rw[fa_ (ao_ h)];exact hk) (by rw[fa_ (ao_ h)];simp;omega)
 rw[fa_ (ao_ h)]at this;rw[this];simp
end
section
def marks:Str:=[43,45,42,60,40,41,58,61]
def fm_ (s:Str):Bool:=s.length==1&&marks.contains (s.headD 0)
def cv_ (s:Str):Int:=if e4_ s then 1 else if a8_ s then 2 else if fm_ s then 3 else 0
structure Tk where
 kind:Int
 s:Str
 col:Int
def d7_ (l:Str):Nat:=max 1 (max (l.takeWhile cd_).length (l.takeWhile b1_).length)
def fp_:Nat→Str→Int→Option (List Tk)
 |0,_,_=>some []
 |_+1,[],_=>some []
 |n+1,c::l,col=>
  if c=32 then fp_ n l (col+1)
  else if cv_ ((c::l).take (d7_ (c::l)))=0 then none
  else(fp_ n ((c::l).drop (d7_ (c::l))) (col+d7_ (c::l))).map (⟨cv_ ((c::l).take (d7_ (c::l))),(c::l).take (d7_ (c::l)),col⟩::·)
def az_ (l:Str):Option (List Tk):=if 120<l.length then none else fp_ l.length l 0
theorem pj_ (l:Str):1≤d7_ l:=by unfold d7_;omega
theorem az8_ (p:UInt8→Bool) (l:Str):(l.takeWhile p).length≤l.length:=(List.takeWhile_prefix p).length_le
theorem aye_ {l:Str} (h:l≠[]):d7_ l≤l.length:=by
 have h1:=az8_ cd_ l
 have h2:=az8_ b1_ l
 have h3:=List.length_pos_iff.2 h
 unfold d7_;omega
theorem q0_:∀(n m:Nat) (l:Str) (col:Int),l.length≤n→l.length≤m→fp_ n l col=fp_ m l col
 |0,m,l,col,hn,hm=>by
  have:l=[]:=List.eq_nil_of_length_eq_zero (by omega)
  subst this
  cases m<;>rfl
 |n+1,0,l,col,hn,hm=>by
  have:l=[]:=List.eq_nil_of_length_eq_zero (by omega)
  subst this
  rfl
 |n+1,m+1,[],col,_,_=>rfl
 |n+1,m+1,c::l,col,hn,hm=>by
  simp only[List.length_cons]at hn hm
  have h1:=pj_ (c::l)
  simp only[fp_]
  rw[q0_ n m l (col+1) (by omega) (by omega),q0_ n m ((c::l).drop (d7_ (c::l))) _ (by simp;omega) (by simp;omega)]
theorem mu_ (c:UInt8) (l:Str) (col:Int):fp_ (c::l).length (c::l) col =
  if c=32 then fp_ l.length l (col+1)
  else if cv_ ((c::l).take (d7_ (c::l)))=0 then none
  else(fp_ ((c::l).drop (d7_ (c::l))).length ((c::l).drop (d7_ (c::l))) (col+d7_ (c::l))).map (⟨cv_ ((c::l).take (d7_ (c::l))),(c::l).take (d7_ (c::l)),col⟩::·):=by
 have h1:=pj_ (c::l)
 have h2:=q0_ l.length ((c::l).drop (d7_ (c::l))).length ((c::l).drop (d7_ (c::l))) (col+d7_ (c::l)) (by simp;omega) (Nat.le_refl _)
 simp only[List.length_cons,fp_]
 rw[h2]
def tkOf:Int→List Str→List Tk
 |_,[]=>[]
 |c,w::r=>⟨cv_ w,w,c⟩::tkOf (c+w.length+1) r
def b3_:Int→List Str→List Int
 |_,[]=>[]
 |c,w::r=>c::b3_ (c+w.length+1) r
theorem qx_:∀(c:Int) (l:List Str),(tkOf c l).map (·.s)=l
 |_,[]=>rfl
 |c,w::r=>by simp only[tkOf,List.map_cons,qx_]
def d8_ (w:Str):Prop:=cv_ w≠0
theorem asd_ {p:UInt8→Bool} {w r:Str} (h:w.all p=true) (hr:∀c,r.head? = some c→p c=false):(w++r).takeWhile p=w:=by
 induction w with
 |nil=>
  cases r with
  |nil=>rfl
  |cons c r=>simp[List.takeWhile,hr c rfl]
 |cons c w ih=>
  simp only[List.all_cons,Bool.and_eq_true]at h
  simp[List.takeWhile,h.1,ih h.2]
theorem n2_ {p:UInt8→Bool} {c:UInt8} {l:Str} (h:p c=false):(c::l).takeWhile p=[]:=by simp[List.takeWhile,h]
theorem h7_ {c:UInt8} (h:cd_ c=true):b1_ c=false:=by
 rw[Bool.eq_false_iff];intro h2
 simp only[cd_,b1_,Bool.and_eq_true,decide_eq_true_eq]at h h2;omega
theorem td_ {c:UInt8} (h:b1_ c=true):cd_ c=false:=by
 rw[Bool.eq_false_iff];intro h2
 simp only[cd_,b1_,Bool.and_eq_true,decide_eq_true_eq]at h h2;omega
theorem n4_ {w:Str} (h:d8_ w):(w≠[]∧w.all cd_=true)∨(w≠[]∧w.all b1_=true)∨(∃c,w=[c]∧cd_ c=false∧b1_ c=false∧c≠32):=by
 unfold d8_ cv_ at h
 by_cases h1:e4_ w=true
 ·left
  simp only[e4_,Bool.and_eq_true,decide_eq_true_eq]at h1
  exact⟨fun e=>by subst e;simp at h1,h1.1.1⟩
 rw[if_neg h1]at h
 by_cases h2:a8_ w=true
 ·right;left
  obtain⟨n,hn,rfl⟩:=do_.1 h2
  exact⟨fd_ n,List.all_eq_true.2 fun c hc=>(nd_ c).2 (c6_ n c hc)⟩
 rw[if_neg h2]at h
 by_cases h3:fm_ w=true
 ·right;right
  simp only[fm_,Bool.and_eq_true,beq_iff_eq]at h3
  match w,h3 with
  |[c],h3=>
   have h4:=h3.2
   refine⟨c,rfl,?_⟩
   simp[marks]at h4
   rcases h4 with h4|h4|h4|h4|h4|h4|h4|h4<;>subst h4<;>decide
 rw[if_neg h3]at h;exact absurd rfl h
theorem adl_ {w:Str} (h:d8_ w):w≠[]:=by
 rcases n4_ h with h|h|⟨c,rfl,_⟩
 ·exact h.1
 ·exact h.1
 simp
theorem wc_ {c:UInt8} {w:Str} (h:d8_ (c::w)):c≠32:=by
 rcases n4_ h with h|h|⟨d,e,h1,h2,h3⟩
 ·intro e;subst e;have:=h.2;simp[cd_]at this
 ·intro e;subst e;have:=h.2;simp[b1_]at this
 injection e with e1 e2;subst e1;exact h3
theorem zy_ {w r:Str} (h:d8_ w) (hr:r=[]∨∃r',r=32::r'):d7_ (w++r)=w.length:=by
 have hl:∀c,r.head? = some c→cd_ c=false:=fun c hc=>by
  rcases hr with rfl|⟨r',rfl⟩
  ·simp at hc
  simp at hc;subst hc;decide
 have hd:∀c,r.head? = some c→b1_ c=false:=fun c hc=>by
  rcases hr with rfl|⟨r',rfl⟩
  ·simp at hc
  simp at hc;subst hc;decide
 unfold d7_
 rcases n4_ h with h|h|⟨c,rfl,h1,h2,h3⟩
 ·rw[asd_ h.2 hl]
  cases w with
  |nil=>exact absurd rfl h.1
  |cons c w=>
   have:=h.2
   simp only[List.all_cons,Bool.and_eq_true]at this
   rw[List.cons_append,n2_ (h7_ this.1)];simp
 ·rw[asd_ h.2 hd]
  cases w with
  |nil=>exact absurd rfl h.1
  |cons c w=>
   have:=h.2
   simp only[List.all_cons,Bool.and_eq_true]at this
   rw[List.cons_append,n2_ (td_ this.1)];simp
 rw[List.cons_append,n2_ h1,n2_ h2];rfl
theorem u5_:∀(l:List Str) (col:Int),(∀w∈l,d8_ w)→fp_ (ap_ l).length (ap_ l) col=some (tkOf col l)
 |[],col,_=>rfl
 |[w],col,h=>by
  have hw:=h w (by simp)
  rw[e6_]
  have hl:=zy_ (r:=[]) hw (.inl rfl)
  rw[List.append_nil]at hl
  cases hc:w with
  |nil=>exact absurd hc (adl_ hw)
  |cons c v=>
   rw[←hc,show w.length=(c::v).length by rw[hc],hc,mu_,←hc,hl]
   have:c≠32:=wc_ (by rw[←hc];exact hw)
   rw[if_neg this,List.take_length,if_neg hw,List.drop_length]
   rfl
 |w::x::l,col,h=>by
  have hw:=h w (by simp)
  have ih:=u5_ (x::l) (col+w.length+1) (fun y hy=>h y (by simp[hy]))
  rw[ef_]
  have hl:=zy_ (r:=32::ap_ (x::l)) hw (.inr ⟨_,rfl⟩)
  cases hc:w with
  |nil=>exact absurd hc (adl_ hw)
  |cons c v=>
   have h32:c≠32:=wc_ (by rw[←hc];exact hw)
   have e1:c::v++32::ap_ (x::l)=c::(v++32::ap_ (x::l)):=rfl
   have e2:c::(v++32::ap_ (x::l))=w++32::ap_ (x::l):=by rw[hc];rfl
   rw[e1,mu_,if_neg h32,e2,hl,List.take_left,List.drop_left,if_neg hw,mu_,if_pos rfl,ih,←hc]
   rfl
theorem no_ {l:List Str} (h:∀w∈l,d8_ w) (hl:(ap_ l).length≤120):az_ (ap_ l)=some (tkOf 0 l):=by
 unfold az_;rw[if_neg (by omega)];exact u5_ l 0 h
theorem wv_ {s:Str} (h:gi_ s=true):d8_ s:=by
 simp only[gi_,Bool.and_eq_true]at h
 unfold d8_ cv_;rw[if_pos h.1];decide
theorem ana_ {n:Nat} (h:n≤1000000):d8_ (Go.Lib.decDigits n):=by
 unfold d8_ cv_
 split
 ·decide
 rw[if_pos (mx_ h).1];decide
theorem iz_ {s:Str} (h:fm_ s=true):d8_ s:=by
 unfold d8_ cv_
 split
 ·decide
 split
 ·decide
 try rw[if_pos h]
 decide
theorem ed_ {s:Str} (h:e4_ s=true):d8_ s:=by unfold d8_ cv_;rw[if_pos h];decide
theorem aqh_ {s:Str} (h:fn_ s=true):d8_ s:=by
 simp only[fn_,Bool.or_eq_true,beq_iff_eq]at h;rcases h with((h|h)|h)|h<;>subst h<;>exact iz_ (by decide)
theorem yf_ {s:Str} (h:ey_ s=true):d8_ s:=by
 simp only[ey_,Bool.or_eq_true,beq_iff_eq]at h;rcases h with h|h<;>subst h<;>exact ed_ (by decide)
theorem d3_:∀(d:Nat) (e:E) (must:Int),form e d=true→∀s∈wds e must,d8_ s
 |0,e,must,h=>by have:=(aj_ h).1;omega
 |d+1,e,must,h=>by
  have e1:((d+1:Nat):Int) - 1=(d:Int):=by omega
  intro s hs
  rcases (aj_ h).2 with⟨k1,h1,h2,h3,h4⟩|⟨k1,h1,h2,h3⟩|⟨k1,h1,h2,h3,h4,h5⟩|⟨k1,h1,h2,h3,h4⟩
  ·rw[gn_ k1]at hs;simp at hs;subst hs;exact ana_ (by omega)
  ·rw[e1_ k1]at hs;simp at hs;subst hs;exact wv_ h2
  ·rw[e1]at h4 h5
   rw[eb_ k1 h3]at hs
   have A:=d3_ d _ (max 2 (ak_ e.s)) h4
   have B:=d3_ d _ (ak_ e.s+1) h5
   have key:s∈wds (e.kids.getD 0 E0) (max 2 (ak_ e.s))++[e.s]++wds (e.kids.getD 1 E0) (ak_ e.s+1)→d8_ s:=fun hs=>by
    simp only[List.mem_append,List.mem_singleton]at hs
    rcases hs with(hs|hs)|hs
    ·exact A s hs
    ·rw[hs];exact aqh_ h2
    exact B s hs
   split at hs
   ·rcases List.mem_append.1 hs with hs|hs
    ·rcases List.mem_append.1 hs with hs|hs
     ·simp at hs;subst hs;exact iz_ (by decide)
     exact key hs
    simp at hs;subst hs;exact iz_ (by decide)
   exact key hs
  rw[e1]at h4
  rw[i0_ k1 h3]at hs
  simp only[List.mem_append,List.mem_cons,List.not_mem_nil,or_false]at hs
  rcases hs with hs|hs|hs
  ·exact d3_ d _ 4 h4 s hs
  ·subst hs;exact ed_ (by decide)
  subst hs;exact yf_ h2
end
section
def ew_ (w:List Str):Option E:=
 if w.length≤40 then
  (if ((b4_ 500 1 ⟨w,false,0⟩).2.bad||!(b4_ 500 1 ⟨w,false,0⟩).2.left.isEmpty||!eok (b4_ 500 1 ⟨w,false,0⟩).1||!(wds (b4_ 500 1 ⟨w,false,0⟩).1 1==w))then none else some (b4_ 500 1 ⟨w,false,0⟩).1)
 else none
def aav_ (w:List Str):Option E:=
 if w.length≤40 then
  (if (!((sL1 500 w 0 5).2==some w.length)||!eok (sL1 500 w 0 5).1||!(wds (sL1 500 w 0 5).1 1==w))then none else some (sL1 500 w 0 5).1)
 else none
theorem na_ {w:List Str} {e:E}:ew_ w=some e↔eok e=true∧wds e 1=w:=by
 unfold ew_
 constructor
 ·intro h
  split at h
  ·split at h
   ·cases h
   rename_i hh
   simp only[Option.some.injEq]at h
   subst h
   simp only[Bool.or_eq_true,Bool.not_eq_true',not_or,Bool.not_eq_true,Bool.not_eq_false,beq_eq_false_iff_ne,ne_eq,Decidable.not_not]at hh
   exact⟨hh.1.2,hh.2⟩
  cases h
 rintro⟨h1,rfl⟩
 have:=(bk_ h1 1).2.1
 obtain⟨d,hd⟩:=a1f_ h1 (by omega) (n:=500) (by omega)
 rw[if_pos (by omega),hd]
 simp[h1]
theorem ww_ {w:List Str} {e:E}:aav_ w=some e↔eok e=true∧wds e 1=w:=by
 unfold aav_
 constructor
 ·intro h
  split at h
  ·split at h
   ·cases h
   rename_i hh
   simp only[Option.some.injEq]at h
   subst h
   simp only[Bool.or_eq_true,Bool.not_eq_true',not_or,Bool.not_eq_true,Bool.not_eq_false,beq_eq_false_iff_ne,ne_eq,Decidable.not_not]at hh
   exact⟨hh.1.2,hh.2⟩
  cases h
 rintro⟨h1,rfl⟩
 have:=(bk_ h1 1).2.1
 have hd:=a19_ h1 (by omega) (n:=500) (by omega)
 rw[if_pos (by omega),hd]
 simp[h1]
theorem ar4_ (w:List Str):ew_ w=aav_ w:=by
 cases h:aav_ w with
 |some e=>rw[na_,←ww_,h]
 |none=>
  cases h2:ew_ w with
  |none=>rfl
  |some e=>rw[na_,←ww_,h]at h2;cases h2
theorem qb_:∀(d:Nat) (e:E) (must:Int),form e d=true→∀s∈wds e must,s≠bp_∧s≠bz_∧s≠bj_∧s≠wIf∧s≠c8_∧s≠jl_∧s≠wEq
 |0,e,must,h=>by have:=(aj_ h).1;omega
 |d+1,e,must,h=>by
  have e1:((d+1:Nat):Int) - 1=(d:Int):=by omega
  intro s hs
  rcases (aj_ h).2 with⟨k1,h1,h2,h3,h4⟩|⟨k1,h1,h2,h3⟩|⟨k1,h1,h2,h3,h4,h5⟩|⟨k1,h1,h2,h3,h4⟩
  ·rw[gn_ k1]at hs;simp at hs;subst hs
   have hd:=c6_ e.n.toNat
   have hne:=fd_ e.n.toNat
   have key:∀c r,¬gk_ c→Go.Lib.decDigits e.n.toNat≠c::r:=fun c r hc he=>hc (hd c (by rw[he];simp))
   refine⟨key _ _ ?_,key _ _ ?_,key _ _ ?_,key _ _ ?_,key _ _ ?_,key _ _ ?_,key _ _ ?_⟩<;>unfold gk_<;>decide
  ·rw[e1_ k1]at hs;simp at hs;subst hs
   simp only[gi_,jm_,Bool.and_eq_true,Bool.not_eq_true',Bool.or_eq_false_iff,beq_eq_false_iff_ne,ne_eq]at h2
   obtain⟨hw,hh⟩:=h2
   refine⟨fun e=>hh.1.1.1.1.1.2 e,fun e=>?_,fun e=>hh.1.1.2 e,fun e=>hh.1.2 e,fun e=>hh.1.1.1.1.2 e,fun e=>hh.1.1.1.1.1.1 e,fun e=>?_⟩<;>rw[e]at hw<;>exact absurd hw (by decide)
  ·rw[e1]at h4 h5
   rw[eb_ k1 h3]at hs
   have A:=qb_ d _ (max 2 (ak_ e.s)) h4
   have B:=qb_ d _ (ak_ e.s+1) h5
   have key:s∈wds (e.kids.getD 0 E0) (max 2 (ak_ e.s))++[e.s]++wds (e.kids.getD 1 E0) (ak_ e.s+1)→s≠bp_∧s≠bz_∧s≠bj_∧s≠wIf∧s≠c8_∧s≠jl_∧s≠wEq:=fun hs=>by
    simp only[List.mem_append,List.mem_singleton]at hs
    rcases hs with(hs|hs)|hs
    ·exact A s hs
    ·rw[hs]
     simp only[fn_,Bool.or_eq_true,beq_iff_eq]at h2;rcases h2 with((h|h)|h)|h<;>rw[h]<;>decide
    exact B s hs
   split at hs
   ·rcases List.mem_append.1 hs with hs|hs
    ·rcases List.mem_append.1 hs with hs|hs
     ·simp at hs;subst hs;decide
     exact key hs
    simp at hs;subst hs;decide
   exact key hs
  rw[e1]at h4
  rw[i0_ k1 h3]at hs
  simp only[List.mem_append,List.mem_cons,List.not_mem_nil,or_false]at hs
  rcases hs with hs|hs|hs
  ·exact qb_ d _ 4 h4 s hs
  ·subst hs;decide
  subst hs;simp only[ey_,Bool.or_eq_true,beq_iff_eq]at h2;rcases h2 with h|h<;>rw[h]<;>decide
theorem ac9_ {a b:List Str} {s:Str} (h:∀x∈a,x≠s):bh_ (a++s::b) s=a.length:=by
 unfold bh_
 rw[if_pos (by simp),List.idxOf_append,if_neg (fun hm=>h s hm rfl)]
 simp
def ex (w:List Str):E:=(ew_ w).getD E0
theorem fk_ {e:E} (h:eok e=true):ex (wds e 1)=e:=by unfold ex;rw[na_.2 ⟨h,rfl⟩];rfl
def rdS (w:List Str):Sl:=
 if 5<w.length∧w.getD 0 []=jl_ then⟨1,w.getD 1 [],w.getD 3 [],ex (w.drop 5),E0⟩
 else if 0<w.length∧w.getD 0 []=bp_ then⟨2,[],[],ex (w.drop 1),E0⟩
 else if 0<w.length∧w.getD 0 []=c8_ then
  (if 0<bh_ w bp_ then⟨3,[],[],ex ((w.take (bh_ w bp_).toNat).drop 1),ex (w.drop ((bh_ w bp_).toNat+1))⟩else⟨3,[],[],E0,E0⟩)
 else S0
def adx_ (s:Sl):Str:=ap_ (sw' s)
def jw_ (b:Bl):Str:=ap_ (bw b)
def ch_ (line:Str):Option Sl:=
 match az_ line with
 |none=>none
 |some ts=>if sok (rdS (ts.map (·.s)))=true∧adx_ (rdS (ts.map (·.s)))=line then some (rdS (ts.map (·.s)))else none
def fc_ (w:List Str):Sl × Bool:=
 if w.length=0 then(S0,true)
 else if w.getD 0 []=jl_∧5<w.length∧w.getD 2 []=bz_∧w.getD 4 []=wEq then(⟨1,w.getD 1 [],w.getD 3 [],ex (w.drop 5),E0⟩,(ew_ (w.drop 5)).isSome)
 else if w.getD 0 []=bp_ then(⟨2,[],[],ex (w.drop 1),E0⟩,(ew_ (w.drop 1)).isSome)
 else if w.getD 0 []=c8_∧0<bh_ w bp_ then
  (⟨3,[],[],ex ((w.take (bh_ w bp_).toNat).drop 1),ex (w.drop ((bh_ w bp_).toNat+1))⟩,(ew_ ((w.take (bh_ w bp_).toNat).drop 1)).isSome&&(ew_ (w.drop ((bh_ w bp_).toNat+1))).isSome)
 else(S0,false)
def nz_ (line:Str):Option Sl:=
 match az_ line with
 |none=>none
 |some ts=>if (fc_ (ts.map (·.s))).2=true∧sok (fc_ (ts.map (·.s))).1=true∧adx_ (fc_ (ts.map (·.s))).1=line then some (fc_ (ts.map (·.s))).1 else none
theorem l8_ {s:Sl} (h:sok s=true):(ap_ (sw' s)).length≤116∧
  (s=S0∨(s.kind=1∧gi_ s.name=true∧ey_ s.type=true∧eok s.expr=true∧s.thn=E0)∨(s.kind=2∧s.name=[]∧s.type=[]∧eok s.expr=true∧s.thn=E0)∨(s.kind=3∧s.name=[]∧s.type=[]∧eok s.expr=true∧eok s.thn=true)):=by
 simp only[sok,Bool.and_eq_true,decide_eq_true_eq]at h
 refine⟨h.2,?_⟩
 have h:=h.1
 unfold b9_ at h
 by_cases k0:s.kind=0
 ·simp[k0,cy_]at h
  left;cases s;simp_all[S0]
 by_cases k1:s.kind=1
 ·simp[k1,cy_]at h;exact .inr (.inl ⟨k1,h.1.1.1,h.1.1.2,h.1.2,h.2⟩)
 by_cases k2:s.kind=2
 ·simp[k2,cy_]at h;exact .inr (.inr (.inl ⟨k2,h.1.1.1,h.1.1.2,h.1.2,h.2⟩))
 by_cases k3:s.kind=3
 ·simp[k3]at h;exact .inr (.inr (.inr ⟨k3,h.1.1.1,h.1.1.2,h.1.2,h.2⟩))
 simp[k0,k1,k2,k3]at h
theorem kd_ {s:Bl} (h:bok s=true):(ap_ (bw s)).length≤120∧
  (s=B0∨(s.kind=1∧gi_ s.name=true∧pe s.expr=true∧s.thn=E0)∨(s.kind=2∧s.name=[]∧pe s.expr=true∧s.thn=E0)∨(s.kind=3∧s.name=[]∧pe s.expr=true∧pe s.thn=true)):=by
 simp only[bok,Bool.and_eq_true,decide_eq_true_eq]at h
 refine⟨h.2,?_⟩
 have h:=h.1
 unfold cx_ at h
 by_cases k0:s.kind=0
 ·simp[k0,cy_]at h
  left;cases s;simp_all[B0]
 by_cases k1:s.kind=1
 ·simp[k1,cy_]at h;exact .inr (.inl ⟨k1,h.1.1,h.1.2,h.2⟩)
 by_cases k2:s.kind=2
 ·simp[k2,cy_]at h;exact .inr (.inr (.inl ⟨k2,h.1.1,h.1.2,h.2⟩))
 by_cases k3:s.kind=3
 ·simp[k3]at h;exact .inr (.inr (.inr ⟨k3,h.1.1,h.1.2,h.2⟩))
 simp[k0,k1,k2,k3]at h
theorem zj_:d8_ bz_:=iz_ (by decide)
theorem ad7_:d8_ wEq:=iz_ (by decide)
theorem ap0_ {s:Sl} (h:sok s=true):∀w∈sw' s,d8_ w:=by
 obtain⟨_,h|⟨k,h1,h2,h3,h4⟩|⟨k,h1,h2,h3,h4⟩|⟨k,h1,h2,h3,h4⟩⟩:=l8_ h
 ·subst h;intro w hw;simp[sw',S0]at hw
 ·intro w hw
  simp only[sw',k,if_true,List.mem_cons]at hw
  rcases hw with rfl|rfl|rfl|rfl|rfl|hw
  ·exact ed_ (by decide)
  ·exact wv_ h1
  ·exact zj_
  ·exact yf_ h2
  ·exact ad7_
  exact d3_ 5 _ 1 (ao_ h3) w hw
 ·intro w hw
  simp only[sw',k,show ¬(2:Int)=1 by omega,if_false,if_true,List.mem_cons]at hw
  rcases hw with rfl|hw
  ·exact ed_ (by decide)
  exact d3_ 5 _ 1 (ao_ h3) w hw
 intro w hw
 simp only[sw',k,show ¬(3:Int)=1 by omega,show ¬(3:Int)=2 by omega,if_false,if_true,List.mem_cons,List.mem_append]at hw
 rcases hw with(rfl|hw)|rfl|hw
 ·exact ed_ (by decide)
 ·exact d3_ 5 _ 1 (ao_ h3) w hw
 ·exact ed_ (by decide)
 exact d3_ 5 _ 1 (ao_ h4) w hw
theorem aeg_ {s:Bl} (h:bok s=true):∀w∈bw s,d8_ w:=by
 obtain⟨_,h|⟨k,h1,h3,h4⟩|⟨k,h1,h3,h4⟩|⟨k,h1,h3,h4⟩⟩:=kd_ h
 ·subst h;intro w hw;simp[bw,B0]at hw
 ·intro w hw
  simp only[bw,k,if_true,List.mem_cons]at hw
  rcases hw with rfl|rfl|hw
  ·exact wv_ h1
  ·exact ad7_
  exact d3_ 5 _ 1 (ao_ (ca_ h3)) w hw
 ·intro w hw
  simp only[bw,k,show ¬(2:Int)=1 by omega,if_false,if_true,List.mem_cons]at hw
  rcases hw with rfl|hw
  ·exact ed_ (by decide)
  exact d3_ 5 _ 1 (ao_ (ca_ h3)) w hw
 intro w hw
 simp only[bw,k,show ¬(3:Int)=1 by omega,show ¬(3:Int)=2 by omega,if_false,if_true,List.mem_cons,List.mem_append]at hw
 rcases hw with(rfl|hw)|rfl|rfl|hw
 ·exact ed_ (by decide)
 ·exact d3_ 5 _ 1 (ao_ (ca_ h3)) w hw
 ·exact zj_
 ·exact ed_ (by decide)
 exact d3_ 5 _ 1 (ao_ (ca_ h4)) w hw
theorem yk_ {s:Sl} (h:sok s=true):az_ (adx_ s)=some (tkOf 0 (sw' s)):=no_ (ap0_ h) (by have:=(l8_ h).1;omega)
theorem ru_ {s:Bl} (h:bok s=true):az_ (jw_ s)=some (tkOf 0 (bw s)):=no_ (aeg_ h) (kd_ h).1
theorem x8_ {e:E} {d:Nat} {r:List Str} (h:form e d=true) (must:Int):bh_ (c8_::wds e must++bp_::r) bp_=(wds e must).length+1:=by
 rw[ac9_]
 ·simp
 intro x hx
 rcases List.mem_cons.1 hx with rfl|hx
 ·decide
 exact(qb_ d e must h x hx).1
theorem al2_ {e:E} {d:Nat} {r:List Str} (h:form e d=true) (must:Int):bh_ (wIf::wds e must++bz_::r) bz_=(wds e must).length+1:=by
 rw[ac9_]
 ·simp
 intro x hx
 rcases List.mem_cons.1 hx with rfl|hx
 ·decide
 exact(qb_ d e must h x hx).2.1
theorem h3_ {e:E} (h:eok e=true):ew_ (wds e 1)=some e:=na_.2 ⟨h,rfl⟩
theorem cut1 {a:Str} {l r:List Str} {x:Str}:((a::l++x::r).take (l.length+1)).drop 1=l:=by simp
theorem cut2 {a:Str} {l r:List Str} {x:Str}:(a::l++x::r).drop (l.length+1+1)=r:=by simp
theorem cut3 {a:Str} {l r:List Str} {x y:Str}:(a::l++x::y::r).drop (l.length+1+2)=r:=by simp[List.drop_append]
theorem a3k_ {s:Sl} (h:sok s=true):rdS (sw' s)=s:=by
 obtain⟨_,h|⟨k,h1,h2,h3,h4⟩|⟨k,h1,h2,h3,h4⟩|⟨k,h1,h2,h3,h4⟩⟩:=l8_ h
 ·subst h;rfl
 ·have hw:sw' s=jl_::s.name::bz_::s.type::wEq::wds s.expr 1:=by simp only[sw',k,if_true]
  have:=(bk_ h3 1).1
  rw[hw,rdS,if_pos ⟨by simp;omega,rfl⟩]
  simp only[List.getD_cons_succ,List.getD_cons_zero,List.drop_succ_cons,List.drop_zero,fk_ h3]
  cases s;simp_all
 ·have hw:sw' s=bp_::wds s.expr 1:=by simp[sw',k]
  rw[hw,rdS,if_neg (fun hh=>absurd (show bp_=jl_ from hh.2) (by decide)),if_pos ⟨by simp,rfl⟩]
  simp only[List.drop_succ_cons,List.drop_zero,fk_ h3]
  cases s;simp_all
 have hw:sw' s=c8_::wds s.expr 1++bp_::wds s.thn 1:=by simp[sw',k]
 rw[hw,rdS,if_neg (fun hh=>absurd (show c8_=jl_ from hh.2) (by decide)),if_neg (fun hh=>absurd (show c8_=bp_ from hh.2) (by decide)),if_pos ⟨by simp,rfl⟩,x8_ (ao_ h3) 1,if_pos (by omega),
  show((wds s.expr 1).length+1:Int).toNat=(wds s.expr 1).length+1 by omega,cut1,cut2,fk_ h3,fk_ h4]
 cases s;simp_all
theorem ayb_ {s:Sl} (h:sok s=true):fc_ (sw' s)=(s,true):=by
 obtain⟨_,h|⟨k,h1,h2,h3,h4⟩|⟨k,h1,h2,h3,h4⟩|⟨k,h1,h2,h3,h4⟩⟩:=l8_ h
 ·subst h;rfl
 ·have hw:sw' s=jl_::s.name::bz_::s.type::wEq::wds s.expr 1:=by simp only[sw',k,if_true]
  have:=(bk_ h3 1).1
  rw[hw,fc_,if_neg (by simp),if_pos ⟨rfl,by simp;omega,rfl,rfl⟩]
  simp only[List.getD_cons_succ,List.getD_cons_zero,List.drop_succ_cons,List.drop_zero,fk_ h3,h3_ h3]
  cases s;simp_all
 ·have hw:sw' s=bp_::wds s.expr 1:=by simp[sw',k]
  rw[hw,fc_,if_neg (by simp),if_neg (fun hh=>absurd (show bp_=jl_ from hh.1) (by decide)),if_pos (show(bp_::wds s.expr 1).getD 0 []=bp_ from rfl)]
  simp only[List.drop_succ_cons,List.drop_zero,fk_ h3,h3_ h3]
  cases s;simp_all
 have hw:sw' s=c8_::wds s.expr 1++bp_::wds s.thn 1:=by simp[sw',k]
 rw[hw,fc_,if_neg (by simp),if_neg (fun hh=>absurd (show c8_=jl_ from hh.1) (by decide)),if_neg (show ¬(c8_::wds s.expr 1++bp_::wds s.thn 1).getD 0 []=bp_ from fun hh=>absurd (show c8_=bp_ from hh) (by decide)),x8_ (ao_ h3) 1,if_pos ⟨rfl,by omega⟩,
  show((wds s.expr 1).length+1:Int).toNat=(wds s.expr 1).length+1 by omega,cut1,cut2,fk_ h3,fk_ h4,h3_ h3,h3_ h4]
 cases s;simp_all
theorem r4_ {line:Str} {s:Sl}:ch_ line=some s↔sok s=true∧adx_ s=line:=by
 unfold ch_
 constructor
 ·intro h
  split at h
  ·cases h
  split at h
  ·rename_i hh;cases h;exact hh
  cases h
 rintro⟨h1,rfl⟩
 rw[yk_ h1]
 simp only[qx_,a3k_ h1,h1,and_self,if_true]
theorem ai8_ {line:Str} {s:Sl}:nz_ line=some s↔sok s=true∧adx_ s=line:=by
 unfold nz_
 constructor
 ·intro h
  split at h
  ·cases h
  split at h
  ·rename_i hh;cases h;exact hh.2
  cases h
 rintro⟨h1,rfl⟩
 rw[yk_ h1]
 simp only[qx_,ayb_ h1,h1,and_self,if_true]
theorem aks_ {α:Type} {x y:Option α} (h:∀a,x=some a↔y=some a):x=y:=by
 cases x with
 |some a=>exact((h a).1 rfl).symm
 |none=>
  cases y with
  |none=>rfl
  |some b=>exact(h b).2 rfl
theorem apy_ (line:Str):ch_ line=nz_ line:=aks_ fun s=>by rw[r4_,ai8_]
def gc_ (w:List Str):Bl:=
 if 0<w.length∧w.getD 0 []=bj_ then⟨2,[],ex (w.drop 1),E0⟩
 else if 0<w.length∧w.getD 0 []=wIf then
  (if 0<bh_ w bz_∧bh_ w bz_+2≤w.length then⟨3,[],ex ((w.take (bh_ w bz_).toNat).drop 1),ex (w.drop ((bh_ w bz_).toNat+2))⟩else⟨3,[],E0,E0⟩)
 else if 2<w.length then⟨1,w.getD 0 [],ex (w.drop 2),E0⟩
 else B0
def el_ (line:Str):Option Bl:=
 match az_ line with
 |none=>none
 |some ts=>if bok (gc_ (ts.map (·.s)))=true∧jw_ (gc_ (ts.map (·.s)))=line then some (gc_ (ts.map (·.s)))else none
def ff_ (w:List Str):Bl × Bool:=
 if w.length=0 then(B0,true)
 else if w.getD 0 []=bj_ then(⟨2,[],ex (w.drop 1),E0⟩,(ew_ (w.drop 1)).isSome)
 else if w.getD 0 []=wIf∧0<bh_ w bz_∧w.getD ((bh_ w bz_).toNat+1) []=bj_ then
  (⟨3,[],ex ((w.take (bh_ w bz_).toNat).drop 1),ex (w.drop ((bh_ w bz_).toNat+2))⟩,(ew_ ((w.take (bh_ w bz_).toNat).drop 1)).isSome&&(ew_ (w.drop ((bh_ w bz_).toNat+2))).isSome)
 else if w.getD 1 []=wEq then(⟨1,w.getD 0 [],ex (w.drop 2),E0⟩,(ew_ (w.drop 2)).isSome)
 else(B0,false)
def oa_ (line:Str):Option Bl:=
 match az_ line with
 |none=>none
 |some ts=>if (ff_ (ts.map (·.s))).2=true∧bok (ff_ (ts.map (·.s))).1=true∧jw_ (ff_ (ts.map (·.s))).1=line then some (ff_ (ts.map (·.s))).1 else none
theorem amc_ {s:Str} (h:gi_ s=true):s≠bj_∧s≠wIf∧s≠bp_∧s≠jl_∧s≠c8_:=by
 simp only[gi_,jm_,Bool.and_eq_true,Bool.not_eq_true',Bool.or_eq_false_iff,beq_eq_false_iff_ne,ne_eq]at h
 obtain⟨_,hh⟩:=h
 exact⟨fun e=>hh.1.1.2 e,fun e=>hh.1.2 e,fun e=>hh.1.1.1.1.1.2 e,fun e=>hh.1.1.1.1.1.1 e,fun e=>hh.1.1.1.1.2 e⟩
theorem azg_ {s:Bl} (h:bok s=true):gc_ (bw s)=s:=by
 obtain⟨_,h|⟨k,h1,h3,h4⟩|⟨k,h1,h3,h4⟩|⟨k,h1,h3,h4⟩⟩:=kd_ h
 ·subst h;rfl
 ·have hw:bw s=s.name::wEq::wds s.expr 1:=by simp only[bw,k,if_true]
  have:=(bk_ (ca_ h3) 1).1
  have hh:=amc_ h1
  rw[hw,gc_,if_neg (fun h=>hh.1 h.2),if_neg (fun h=>hh.2.1 h.2),if_pos (by simp;omega)]
  simp only[List.getD_cons_succ,List.getD_cons_zero,List.drop_succ_cons,List.drop_zero,fk_ (ca_ h3)]
  cases s;simp_all
 ·have hw:bw s=bj_::wds s.expr 1:=by simp[bw,k]
  rw[hw,gc_,if_pos ⟨by simp,rfl⟩]
  simp only[List.drop_succ_cons,List.drop_zero,fk_ (ca_ h3)]
  cases s;simp_all
 have hw:bw s=wIf::wds s.expr 1++bz_::bj_::wds s.thn 1:=by simp[bw,k]
 rw[hw,gc_,if_neg (fun hh=>absurd (show wIf=bj_ from hh.2) (by decide)),if_pos ⟨by simp,rfl⟩,al2_ (ao_ (ca_ h3)) 1,if_pos ⟨by omega,by simp;omega⟩,
  show((wds s.expr 1).length+1:Int).toNat=(wds s.expr 1).length+1 by omega,cut1,cut3,fk_ (ca_ h3),fk_ (ca_ h4)]
 cases s;simp_all
theorem at5_ {a:Str} {l r:List Str} {x y:Str}:(a::l++x::y::r).getD (l.length+1+1) []=y:=by
 simp[List.getD_eq_getElem?_getD]
theorem ayl_ {s:Bl} (h:bok s=true):ff_ (bw s)=(s,true):=by
 obtain⟨_,h|⟨k,h1,h3,h4⟩|⟨k,h1,h3,h4⟩|⟨k,h1,h3,h4⟩⟩:=kd_ h
 ·subst h;rfl
 ·have hw:bw s=s.name::wEq::wds s.expr 1:=by simp only[bw,k,if_true]
  have hh:=amc_ h1
  rw[hw,ff_,if_neg (by simp),if_neg (show ¬(s.name::wEq::wds s.expr 1).getD 0 []=bj_ from hh.1),if_neg (fun h=>hh.2.1 h.1),if_pos (show(s.name::wEq::wds s.expr 1).getD 1 []=wEq from rfl)]
  simp only[List.getD_cons_succ,List.getD_cons_zero,List.drop_succ_cons,List.drop_zero,fk_ (ca_ h3),h3_ (ca_ h3)]
  cases s;simp_all
 ·have hw:bw s=bj_::wds s.expr 1:=by simp[bw,k]
  rw[hw,ff_,if_neg (by simp),if_pos (show(bj_::wds s.expr 1).getD 0 []=bj_ from rfl)]
  simp only[List.drop_succ_cons,List.drop_zero,fk_ (ca_ h3),h3_ (ca_ h3)]
  cases s;simp_all
 have hw:bw s=wIf::wds s.expr 1++bz_::bj_::wds s.thn 1:=by simp[bw,k]
 rw[hw,ff_,if_neg (by simp),if_neg (show ¬(wIf::wds s.expr 1++bz_::bj_::wds s.thn 1).getD 0 []=bj_ from fun hh=>absurd (show wIf=bj_ from hh) (by decide)),al2_ (ao_ (ca_ h3)) 1,
  show((wds s.expr 1).length+1:Int).toNat=(wds s.expr 1).length+1 by omega,if_pos ⟨rfl,by omega,at5_⟩,cut1,cut3,fk_ (ca_ h3),fk_ (ca_ h4),h3_ (ca_ h3),h3_ (ca_ h4)]
 cases s;simp_all
theorem zb_ {line:Str} {s:Bl}:el_ line=some s↔bok s=true∧jw_ s=line:=by
 unfold el_
 constructor
 ·intro h
  split at h
  ·cases h
  split at h
  ·rename_i hh;cases h;exact hh
  cases h
 rintro⟨h1,rfl⟩
 rw[ru_ h1]
 simp only[qx_,azg_ h1,h1,and_self,if_true]
theorem ai2_ {line:Str} {s:Bl}:oa_ line=some s↔bok s=true∧jw_ s=line:=by
 unfold oa_
 constructor
 ·intro h
  split at h
  ·cases h
  split at h
  ·rename_i hh;cases h;exact hh.2
  cases h
 rintro⟨h1,rfl⟩
 rw[ru_ h1]
 simp only[qx_,ayl_ h1,h1,and_self,if_true]
theorem ar3_ (line:Str):el_ line=oa_ line:=aks_ fun s=>by rw[zb_,ai2_]
end
end Go.Proofs.YthjccajoadjicaaGreatDoor
