/- What a line is turned into, the reference's. Conditions: none. -/
import Derived.Test.YthjccajoadjicaaGreatDoorMh
import Derived.Lib.Split
import Derived.Lib.IndexBytes
import Derived.RangeFuncBox
import Derived.RangeFuncLeaves
import Derived.Shelf.Abstract
import Derived.OwnWalkIn
import Derived.TacticsInMore
import Derived.LoopNIn
import Derived.LoopIn
set_option linter.unusedVariables false
set_option linter.unusedSimpArgs false
set_option maxRecDepth 100000
set_option maxHeartbeats 8000000
namespace Go.Proofs.YthjccajoadjicaaGreatDoor
section
theorem ako_ (x y:Int):ACall En 28 [.i .i64 x,.i .i64 y] [] [.i .i64 (max x y)] []:=by
 refine aa_ [] Tryz.func28 Tryz.ntmps28 fun C=>?_
 refine .seq (.rg [] ?_)
 refine .seq (.seq (.rg [] ?_))
 refine .cB (fun h7=>?_) fun h7=>?_
 ·refine .seq (.rg [] ?_)
  refine .ret ⟨.inr rfl,Out.pP Tryz.results28 ?_⟩;simp only[decide_eq_true_eq]at h7;rw[show max x y=x by omega]
 refine .skip (.seq (.rg [] ?_))
 refine .ret ⟨.inr rfl,Out.pP Tryz.results28 ?_⟩;simp only[decide_eq_false_iff_not]at h7;rw[show max x y=y by omega]
attribute [local go_sem] ci_ dp_ af_ ah_ List.length_append List.take_of_length_le ih_ in
theorem aew_ (d:Nat):∀(e:E) (t b:Int),form e d=true→sm e=true→many e d≤1000→t≤4→b≤4→ -1000≤t→ -1000≤b→ACall En 177 [.ag (eC e),.i .i64 t,.i .i64 b] [] [.sl false (wdR (l8 e t b))] []:=by
 induction d with
 |zero=>intro e t b h;have:=(aj_ h).1;omega
 |succ d ih=>
 intro e t b h hs hm ht hb ht2 hb2
 obtain⟨a1,a2,a3⟩:=fg_ hs
 have e1:((d+1:Nat):Int) - 1=(d:Int):=by omega
 have hd1:(1:Int)≤((d+1:Nat):Int):=by omega
 have g1:e.kind=1→0≤e.n∧e.n≤1000000:=fun hk=>by
  rcases (aj_ h).2 with⟨k1,h1,h2,h3,h4⟩|⟨k1,h1,h2,h3⟩|⟨k1,_⟩|⟨k1,_⟩<;>omega
 have g3:e.kind=3→e.kids.length=2∧1≤ak_ e.s∧ak_ e.s≤3∧form (e.kids.getD 0 E0) d=true∧form (e.kids.getD 1 E0) d=true∧many (e.kids.getD 0 E0) d≤1000∧many (e.kids.getD 1 E0) d≤1000∧lvl e=ak_ e.s:=fun hk=>by
  rcases (aj_ h).2 with⟨k1,_⟩|⟨k1,_⟩|⟨k1,h1,h2,h3,h4,h5⟩|⟨k1,_⟩<;>try omega
  rw[e1]at h4 h5
  have:=by_ h2
  have hm2:=ku_ hd1 h3
  rw[e1]at hm2
  have q1:=cw_ d _ 0 h4
  have q2:=cw_ d _ 0 h5
  exact⟨h3,this.1,this.2,h4,h5,by omega,by omega,xd_ k1 h2⟩
 have g4:e.kind=4→e.kids.length=1∧form (e.kids.getD 0 E0) d=true∧many (e.kids.getD 0 E0) d≤1000:=fun hk=>by
  rcases (aj_ h).2 with⟨k1,_⟩|⟨k1,_⟩|⟨k1,_⟩|⟨k1,h1,h2,h3,h4⟩<;>try omega
  rw[e1]at h4
  have hm2:=mj_ hd1 h3
  rw[e1]at hm2
  have q1:=cw_ d _ 0 h4
  exact⟨h3,h4,by omega⟩
 have g0:e.kind=1∨e.kind=2∨e.kind=3∨e.kind=4:=by
  rcases (aj_ h).2 with⟨k1,_⟩|⟨k1,_⟩|⟨k1,_⟩|⟨k1,_⟩<;>omega
 have hlv:lvl e=if e.kind=3 then ak_ e.s else 4:=by
  by_cases hk:e.kind=3
  ·rw[if_pos hk,(g3 hk).2.2.2.2.2.2.2]
  rw[if_neg hk,lvl,if_neg hk]
 have hC:e.kind≠4→(l8c e).length≤7000∧∀p∈l8c e,p.2≤7000:=fun hk=>by
  rcases g0 with hk4|hk4|hk4|hk4
  ·simp[l8c,hk4]
  ·simp[l8c,hk4]
  ·have q:=g3 hk4
   have q1:=o3_ q.2.2.2.1 q.2.2.2.2.2.1 (t:=max 2 (ak_ e.s)) (b:=max 2 (ak_ e.s)) (by omega) (by omega)
   have q2:=o3_ q.2.2.2.2.1 q.2.2.2.2.2.2.1 (t:=ak_ e.s+1) (b:=ak_ e.s+1) (by omega) (by omega)
   have q3:=ke_ d _ q.2.2.2.1 q.2.2.2.2.2.1 (max 2 (ak_ e.s))
   simp only[l8c,hk4,show ¬(3:Int)=1 by omega,show ¬(3:Int)=2 by omega,if_false]
   refine⟨by simp only[List.length_append,List.length_cons,ih_];omega,fun p hp=>?_⟩
   rcases List.mem_append.1 hp with hp|hp
   ·have:=q1.2 p hp;omega
   rcases List.mem_cons.1 hp with rfl|hp
   ·dsimp only;omega
   simp only[shf,List.mem_map]at hp
   obtain⟨u,hu,rfl⟩:=hp
   have:=q2.2 u hu
   split
   ·dsimp only;omega
   omega
  exact absurd hk4 hk
 have hN:e.kind≠4→l8c e≠[]:=fun hk=>by
  rcases g0 with k|k|k|k
  ·simp[l8c,k]
  ·simp[l8c,k]
  ·simp[l8c,k]
  exact absurd k hk
 have hT:e.kind≠4→l8 e t b=brk (decide (lvl e<b)) (shf (if lvl e<t then 1 else 0) (l8c e)):=fun hk=>by
  rw[ayh_ (by rcases g0 with k|k|k|k;exact .inl k;exact .inr (.inl k);exact .inr (.inr ⟨k,(g3 k).1⟩);exact absurd k hk)]
  rw[hlv]
  by_cases k3:e.kind=3
  ·simp[k3]
  simp[k3,show ¬(4:Int)<b by omega,show ¬(4:Int)<t by omega]
 refine aa_ [] Tryz.func177 Tryz.ntmps177 fun C=>?_
 refine .seq (.rg [] ?_)
 refine .seq (.rg [] ?_)
 refine .seq (.rg [ab_ (rm_ e)] ?_)
 refine .seqJ (fun op:Int=>⟨[.no,.i .i64 t,.i .i64 b,.pt 13 4 0 0,.no,.no,.no,.i .i64 op,.i .i64 (lvl e),.no,.no,.no,.no,.no,.no,.no,.no,.no,.no,.no,.no,.no,.no,.no,.no,.no,.no,.no,.no,.no,.no,.no,.no,.no,.no,.no,.no,.no,.no,.no,.no,.no,.no,.no,.no,.no,.no,.no,.no,.no,.no,.no,.no,.no,.no,.no,.no,.no,.no,.no,.no,.no,.no,.no,.no,.no,.no,.no,.no,.no,.no,.no,.no,.no,.no,.no,.no,.no,.no,.no,.no,.no,.no,.no,.no,.no,.no,.no,.no,.no,.no,.no,.no,.no,.no,.no,.no,.no,.no,.no,.no,.no],ae_ [(13,⟨56,4,[eC e]⟩)],us [13]⟩) (fun op:Int=>op=if lvl e<t then 1 else 0) ?_ (fun op hJ=>?_)
 ·refine .seq (.rg [] ?_)
  refine .cB (fun h18=>?_) fun h18=>?_
  ·refine .rg [] ?_
   refine⟨1,?_,?_⟩
   ·simp_all
   exact Can.wl
  refine .skip ?_
  refine⟨0,?_,?_⟩
  ·simp_all
  exact Can.wl
 refine .seq (.rg [] ?_)
 refine .seqJ (fun u:Unit=>⟨[.no,.no,.i .i64 b,.no,.no,.no,.no,.i .i64 op,.i .i64 (lvl e),.sl false (wdR (l8c e)),.no,.no,.no,.no,.no,.no,.no,.no,.no,.no,.no,.no,.no,.no,.no,.no,.no,.no,.no,.no,.no,.no,.no,.no,.no,.no,.no,.no,.no,.no,.no,.no,.no,.no,.no,.no,.no,.no,.no,.no,.no,.no,.no,.no,.no,.no,.no,.no,.no,.no,.no,.no,.no,.no,.no,.no,.no,.no,.no,.no,.no,.no,.no,.no,.no,.no,.no,.no,.no,.no,.no,.no,.no,.no,.no,.no,.no,.no,.no,.no,.no,.no,.no,.no,.no,.no,.no,.no,.no,.no,.no,.no],ae_ [],us []⟩) (fun u:Unit=>e.kind≠4∧op=if lvl e<t then 1 else 0) ?_ (fun u hJ=>?_)
 ·refine .seq (.rg [] ?_)
  refine .block (.seq (.rg [] ?_))
  refine .cB (fun h30=>?_) fun h30=>?_
  ·refine .rgo [ab_ (hv_ e.n (by have:=g1 (by simpa using h30);omega) (by have:=g1 (by simpa using h30);omega))] ?_ ?_
   ·((simp[c7_,b0_];done))
   refine Exists.intro (()) ⟨?_,?_⟩
   ·exact⟨by simp_all,hJ⟩
   refine Can.trans (Can.frz 48 (by simp only[go_sem,seval]<;>rfl) (by simp only[go_sem,seval]) (by simp only[go_sem,seval]<;>rfl) (by simp only[go_sem,seval]<;>rfl)) ?_
   refine Can.wh ?_;(have k1:e.kind=1:=(by simpa using h30);rw[l1_ (g1 k1).1];simp[l8c,k1,wdR,ad_];done)
  refine .seq (.rg [] ?_)
  refine .cB (fun h39=>?_) fun h39=>?_
  ·refine .rgo [] ?_ ?_
   ·((simp[c7_,b0_];done))
   refine Exists.intro (()) ⟨?_,?_⟩
   ·exact⟨by simp_all,hJ⟩
   refine Can.trans (Can.frz 56 (by simp only[go_sem,seval]<;>rfl) (by simp only[go_sem,seval]) (by simp only[go_sem,seval]<;>rfl) (by simp only[go_sem,seval]<;>rfl)) ?_
   refine Can.wh ?_;(have k1:e.kind=2:=(by simpa using h39);simp[l8c,k1,wdR,ad_];done)
  refine .seq (.rg [] ?_)
  refine .cB (fun h47=>?_) fun h47=>?_
  ·refine .seq (.rg [ab_ (ako_ (lvl e) 2)] ?_)
   refine .seq (.rgo [ab_ (ih (e.kids.getD 0 E0) (max (lvl e) 2) (max (lvl e) 2) (g3 (by simpa using h47)).2.2.2.1 (cj_ a3 _ (ag_ (by have:=g3 (by simpa using h47);omega))) (g3 (by simpa using h47)).2.2.2.2.2.1 (by have:=g3 (by simpa using h47);omega) (by have:=g3 (by simpa using h47);omega) (by omega) (by omega))] ?_ ?_ (h:=by simp only[go_sem,seval,b8_ (show 0<e.kids.length by have:=g3 (by simpa using h47);omega)];rfl))
   ·have q:=g3 (by simpa using h47);simp;omega
   refine .seq (.rgo [ab_ (g8_ d (e.kids.getD 0 E0) (max (lvl e) 2) (g3 (by simpa using h47)).2.2.2.1 (cj_ a3 _ (ag_ (by have:=g3 (by simpa using h47);omega))) (g3 (by simpa using h47)).2.2.2.2.2.1 (by have:=g3 (by simpa using h47);omega) (by omega))] ?_ ?_ (h:=by simp only[go_sem,seval,b8_ (show 0<e.kids.length by have:=g3 (by simpa using h47);omega)];rfl))
   ·have q:=g3 (by simpa using h47);simp;omega
   refine .seq (.rgo [ab_ (ih (e.kids.getD 1 E0) (lvl e+1) (lvl e+1) (g3 (by simpa using h47)).2.2.2.2.1 (cj_ a3 _ (ag_ (by have:=g3 (by simpa using h47);omega))) (g3 (by simpa using h47)).2.2.2.2.2.2.1 (by have:=g3 (by simpa using h47);omega) (by have:=g3 (by simpa using h47);omega) (by have:=g3 (by simpa using h47);omega) (by have:=g3 (by simpa using h47);omega))] ?_ ?_ (h:=by simp only[go_sem,seval,b8_ (show 1<e.kids.length by have:=g3 (by simpa using h47);omega),ac_ (show -9223372036854775808≤lvl e+1 by have:=g3 (by simpa using h47);omega) (by have:=g3 (by simpa using h47);omega)];rfl))
   ·have q:=g3 (by simpa using h47);simp;omega
   refine .rgDo [ab_ (kp_ (l8 (e.kids.getD 1 E0) (lvl e+1) (lvl e+1)) ((wds (e.kids.getD 0 E0) (max (lvl e) 2)).length+1) (by have q:=g3 (by simpa using h47);have:=(o3_ q.2.2.2.2.1 q.2.2.2.2.2.2.1 (t:=lvl e+1) (b:=lvl e+1) (by omega) (by omega)).1;omega) (fun p hp=>by have q:=g3 (by simpa using h47);have:=(o3_ q.2.2.2.2.1 q.2.2.2.2.2.2.1 (t:=lvl e+1) (b:=lvl e+1) (by omega) (by omega)).2 p hp;omega) (by omega) (by have q:=g3 (by simpa using h47);have:=ke_ d _ q.2.2.2.1 q.2.2.2.2.2.1 (max (lvl e) 2);omega))] ?_ ?_ (h:=by simp only[go_sem,seval,ac_ (show -9223372036854775808≤((wds (e.kids.getD 0 E0) (max (lvl e) 2)).length:Int)+1 by omega) (by have q:=g3 (by simpa using h47);have:=ke_ d _ q.2.2.2.1 q.2.2.2.2.2.1 (max (lvl e) 2);omega)];rfl)
   ·have q:=g3 (by simpa using h47);have q1:=(o3_ q.2.2.2.1 q.2.2.2.2.2.1 (t:=max (lvl e) 2) (b:=max (lvl e) 2) (by omega) (by omega)).1;have q2:=(o3_ q.2.2.2.2.1 q.2.2.2.2.2.2.1 (t:=lvl e+1) (b:=lvl e+1) (by omega) (by omega)).1;simp[-List.getD_eq_getElem?_getD,c7_,b0_];omega
   refine Exists.intro (()) ⟨?_,?_⟩
   ·exact⟨by simp_all,hJ⟩
   refine Can.trans (Can.frz 97 (by simp only[go_sem,seval]<;>rfl) (by simp only[go_sem,seval]) (by simp only[go_sem,seval]<;>rfl) (by simp only[go_sem,seval]<;>rfl)) ?_
   refine Can.wh ?_;(have k1:e.kind=3:=(by simpa using h47);have q:=(g3 k1).2.2.2.2.2.2.2;rw[q,show max (ak_ e.s) 2=max 2 (ak_ e.s) by omega];simp[l8c,k1,wdR,ad_];done)
  refine .seq (.rgo [ab_ (ih (e.kids.getD 0 E0) 4 b (g4 (by simp_all)).2.1 (cj_ a3 _ (ag_ (by have:=g4 (by simp_all);omega))) (g4 (by simp_all)).2.2 (by decide) hb (by decide) hb2),ab_ (kp_ (l8 (e.kids.getD 0 E0) 4 b) op (by have q:=g4 (by simp_all);have:=(o3_ q.2.1 q.2.2 (t:=4) (b:=b) (by omega) hb).1;omega) (fun p hp=>by have q:=g4 (by simp_all);have:=(o3_ q.2.1 q.2.2 (t:=4) (b:=b) (by omega) hb).2 p hp;omega) (by rw[hJ];split<;>decide) (by rw[hJ];split<;>decide))] ?_ ?_ (h:=by simp only[go_sem,seval,b8_ (show 0<e.kids.length by have:=g4 (by simp_all);omega)];rfl))
  ·have q:=g4 (by simp_all);simp;omega
  refine .ret ⟨.inr rfl,Out.pP Tryz.results177 ?_⟩;have k4:e.kind=4:=(by simp_all);rw[a0p_ k4 (g4 k4).1,show op=0 by rw[hJ,if_neg (by rw[hlv,if_neg (by omega)];omega)],qo_]
 refine .seq (.rg [ab_ (kp_ (l8c e) op (by have:=hC hJ.1;omega) (fun p hp=>by have:=(hC hJ.1).2 p hp;omega) (by rw[hJ.2];split<;>decide) (by rw[hJ.2];split<;>decide))] ?_)
 refine .seq (.seq (.rg [] ?_))
 refine .cB (fun h93=>?_) fun h93=>?_
 ·refine .seq (.rgo [] ?_ ?_)
  ·have q:=hC hJ.1;have q2:=hN hJ.1;simp[c7_,b0_,fz_,shf,q2];omega
  refine .fX 110 ?_
  refine .ret ⟨.inr rfl,Out.pP Tryz.results177 ?_⟩;rw[hT hJ.1,h93,hJ.2,if_pos (by omega),List.take_of_length_le (by simp[ci_,ih_];omega)];simp[brk,wdR,peel]
 refine .skip (.seq (.rg [] ?_))
 refine .ret ⟨.inr rfl,Out.pP Tryz.results177 ?_⟩;rw[hT hJ.1,h93,hJ.2];rfl
theorem xj_ {e:E} (h:eok e=true):(l8 e 1 1).length≤3000∧∀p∈l8 e 1 1, -1≤p.2∧p.2≤3000:=o3_ (d:=5) (ao_ h) (h8_ h) (by decide) (by decide)
theorem ask_ {e:E} (h:eok e=true):l8 e 1 1≠[]:=fun e0=>by
 have T:=k8_ 5 e 1 1 0 (ao_ h) (by decide) (by decide) (by decide)
 have h1:=f9_ 5 e (ao_ h)
 have h2:=(cw_ 5 (bare e) 1 h1.1).1
 have h3:=T.len
 rw[e0,qu_]at h3
 simp only[List.length_nil]at h3;omega
attribute [local go_sem] ci_ dp_ af_ ah_ List.length_append List.take_of_length_le ih_ a9_ in
theorem asg_ (s:Sl) (h:b9_ s=true) (hs:d6_ s=true):ACall En 109 [.ag (sC s)] [] [.sl false (wdR (l8L s))] []:=by
 obtain⟨h0,h1,h2⟩:=hc_ h
 obtain⟨s1,s1',s2,s3⟩:=gl_ hs
 have X:s.kind=1∨s.kind=2∨s.kind=3→_:=fun hk=>aew_ 5 s.expr 1 1 (ao_ (h1 hk)) s2 (h8_ (h1 hk)) (by decide) (by decide) (by decide) (by decide)
 have X3:s.kind=3→_:=fun hk=>aew_ 5 s.thn 1 1 (ao_ (h2 hk)) s3 (h8_ (h2 hk)) (by decide) (by decide) (by decide) (by decide)
 have W:s.kind=3→_:=fun hk=>g8_ 5 s.expr 1 (ao_ (h1 (.inr (.inr hk)))) s2 (h8_ (h1 (.inr (.inr hk)))) (by decide) (by decide)
 have Sh:s.kind=1∨s.kind=2∨s.kind=3→∀n:Int,0≤n→n≤1000000→_:=fun hk n hn hn2=>kp_ (l8 s.expr 1 1) n (by have:=(xj_ (h1 hk)).1;omega) (fun p hp=>by have:=(xj_ (h1 hk)).2 p hp;omega) hn hn2
 have Sh3:s.kind=3→∀n:Int,0≤n→n≤1000000→_:=fun hk n hn hn2=>kp_ (l8 s.thn 1 1) n (by have:=(xj_ (h2 hk)).1;omega) (fun p hp=>by have:=(xj_ (h2 hk)).2 p hp;omega) hn hn2
 have hW:s.kind=3→(wds s.expr 1).length≤36:=fun hk=>(bk_ (h1 (.inr (.inr hk))) 1).2.1
 refine aa_ [] Tryz.func109 Tryz.ntmps109 fun C=>?_
 refine .seq (.rg [] ?_)
 refine .seq (.seq (.rg [] ?_))
 refine .block (.seq (.rg [] ?_))
 refine .cB (fun h7=>?_) fun h7=>?_
 ·refine .seq (.rgDo [ab_ (X (.inl (by simpa using h7))),ab_ (Sh (.inl (by simpa using h7)) 5 (by decide) (by decide))] ?_ ?_)
  ·have k:=h1 (.inl (by simpa using h7));have q:=(xj_ k).1;have q2:=ask_ k;simp[c7_,b0_,fz_,shf,q2];omega
  refine .fX 28 ?_
  refine .ret ⟨.inr rfl,Out.pP Tryz.results109 ?_⟩;have k:s.kind=1:=(by simpa using h7);rw[if_pos (by omega),List.take_of_length_le (by simp[ci_,ih_];omega)];simp[l8L,k,wdR,peel,wEq]
 refine .seq (.rg [] ?_)
 refine .cB (fun h19=>?_) fun h19=>?_
 ·refine .seq (.rgo [ab_ (X (.inr (.inl (by simpa using h19)))),ab_ (Sh (.inr (.inl (by simpa using h19))) 1 (by decide) (by decide))] ?_ ?_)
  ·have k:=h1 (.inr (.inl (by simpa using h19)));have q:=(xj_ k).1;have q2:=ask_ k;simp[c7_,b0_,fz_,shf,q2];omega
  refine .fX 37 ?_
  refine .ret ⟨.inr rfl,Out.pP Tryz.results109 ?_⟩;have k:s.kind=2:=(by simpa using h19);rw[if_pos (by omega),List.take_of_length_le (by simp[ci_,ih_];omega)];simp[l8L,k,wdR,peel,bj_]
 refine .seq (.rg [] ?_)
 refine .cB (fun h28=>?_) fun h28=>?_
 ·refine .seq (.rg [ab_ (W (by simpa using h28))] ?_)
  refine .seq (.rgo [ab_ (X (.inr (.inr (by simpa using h28)))),ab_ (Sh (.inr (.inr (by simpa using h28))) 1 (by decide) (by decide))] ?_ ?_)
  ·have k:=h1 (.inr (.inr (by simpa using h28)));have q:=(xj_ k).1;have q2:=ask_ k;simp[c7_,b0_,fz_,shf,q2];omega
  refine .seq (.rgo [] ?_ ?_ (h:=by simp only[go_sem,seval,ac_ (show -9223372036854775808≤((wds s.expr 1).length:Int)+1 by omega) (by have:=hW (by simpa using h28);omega)];rfl))
  ·have k:=h1 (.inr (.inr (by simpa using h28)));have q:=(xj_ k).1;simp[c7_,b0_];omega
  refine .seq (.rgo [ab_ (X3 (by simpa using h28)),ab_ (Sh3 (by simpa using h28) ((wds s.expr 1).length+2) (by omega) (by have:=hW (by simpa using h28);omega))] ?_ ?_ (h:=by simp only[go_sem,seval,ac_ (show -9223372036854775808≤((wds s.expr 1).length:Int)+2 by omega) (by have:=hW (by simpa using h28);omega)];rfl))
  ·have k:=h1 (.inr (.inr (by simpa using h28)));have q:=(xj_ k).1;have k2:=h2 (by simpa using h28);have q2:=(xj_ k2).1;simp[c7_,b0_];omega
  refine .fX 65 ?_
  refine .ret ⟨.inr rfl,Out.pP Tryz.results109 ?_⟩;have k:s.kind=3:=(by simpa using h28);rw[if_pos (by omega),List.take_of_length_le (by simp[ci_,ih_];omega)];simp[l8L,k,wdR,peel,bj_,wIf,bz_]
 refine .skip (.seq (.rg [] ?_))
 refine .can (Can.slotLe 2 (.sl false []) (by simp only[go_sem,seval]<;>trivial) (by simp only[go_sem,seval]<;>rfl)) ?_
 refine .ret ⟨.inr rfl,Out.pP Tryz.results109 ?_⟩;have k:s.kind=0:=(by simp_all);simp[l8L,k,wdR]
theorem ig_ {s:Sl} (h:b9_ s=true):(l8L s).length=(bw (bof s)).length∧(l8L s).map (·.1)=bw (bof s):=by
 obtain⟨h0,h1,h2⟩:=hc_ h
 have T:∀e:E,eok e=true→(l8 e 1 1).map (·.1)=wds (bare e) 1:=fun e he=>by
  rw[(k8_ 5 e 1 1 0 (ao_ he) (by decide) (by decide) (by decide)).fst,eu_]
 have hm:(l8L s).map (·.1)=bw (bof s):=by
  unfold l8L bw bof
  rcases h0 with k|k|k|k
  ·simp[k]
  ·simp[k,abh_,T _ (h1 (.inl k))]
  ·simp[k,abh_,T _ (h1 (.inr (.inl k)))]
  simp[k,abh_,T _ (h1 (.inr (.inr k))),T _ (h2 k)]
 exact⟨by rw[←hm,List.length_map],hm⟩
end
section
theorem auj_ {e:E} {d:Int} (h:form e d=true) (nx:Int):src e 1 nx=src e 0 nx:=by
 rw[al0_ h 1 nx]
 obtain⟨_,h1|h1|h1|h1⟩:=aj_ h
 ·simp[h1.1,brk]
 ·simp[h1.1,brk]
 ·have:=by_ h1.2.2.1
  rw[decide_eq_false (show ¬ak_ e.s<1 by omega),Bool.and_false];rfl
 simp[h1.1,brk]
def Ltr (L:Wd):Wd→Wd→Prop
 |[],[]=>True
 |w::B,c::C=>c.1=w.1∧((w.2 = -1∧c.2 = -1∧(w.1=[40]∨w.1=[41]∨w.1=bz_))∨(0≤w.2∧0≤c.2∧∃u,L[c.2.toNat]? = some u∧u.2=w.2∧(u.1=w.1∨(u.1=bp_∧w.1=bj_)∨(u.1=c8_∧w.1=wIf))))∧Ltr L B C
 |_,_=>False
theorem Ltr.app {L:Wd}:∀ {B C B' C':Wd},Ltr L B C→Ltr L B' C'→Ltr L (B++B') (C++C')
 |[],[],_,_,_,h=>h
 |[],_::_,_,_,h,_=>by simp[Ltr]at h
 |_::_,[],_,_,h,_=>by simp[Ltr]at h
 |w::B,c::C,B',C',h,k=>by
  simp only[Ltr]at h
  simp only[List.cons_append,Ltr]
  exact⟨h.1,h.2.1,h.2.2.app k⟩
theorem Ltr.right {L Q:Wd}:∀ {B C:Wd},Ltr L B C→Ltr (L++Q) B C
 |[],[],_=>by simp[Ltr]
 |[],_::_,h=>by simp[Ltr]at h
 |_::_,[],h=>by simp[Ltr]at h
 |w::B,c::C,h=>by
  simp only[Ltr]at h ⊢
  refine⟨h.1,?_,h.2.2.right⟩
  rcases h.2.1 with h1|⟨h1,h2,u,h3,h4⟩
  ·exact .inl h1
  exact .inr ⟨h1,h2,u,by rw[List.getElem?_append_left (List.getElem?_eq_some_iff.1 h3).1];exact h3,h4⟩
def abm_ (l:Wd):Prop:=∀p∈l,p.2 = -1→p.1=[40]∨p.1=[41]
theorem aci_:∀(d:Nat) (e:E) (must nx:Int),form e d=true→pla e=true→0≤nx→abm_ (src e must nx)
 |0,e,must,nx,h,_,_=>by have:=(aj_ h).1;omega
 |d+1,e,must,nx,h,hp,hn0=>by
  have e1:((d+1:Nat):Int) - 1=(d:Int):=by omega
  obtain⟨h0,h1|h1|h1|h1⟩:=aj_ h
  ·rw[t2_ h1.1];intro p hp h;simp at hp;subst hp;dsimp only at h;omega
  ·rw[ox_ h1.1];intro p hp h;simp at hp;subst hp;dsimp only at h;omega
  ·obtain⟨k,hn,ho,hl,ha,hb⟩:=h1
   rw[e1]at ha hb
   have hpk:lw_ e.kids=true:=by rw[vd_]at hp;simp only[Bool.and_eq_true]at hp;exact hp.2
   rw[kk_ hl]at hpk
   simp only[lw_,Bool.and_true,Bool.and_eq_true]at hpk
   have hc:=cw_ d _ 0 ha
   have A:=aci_ d _ (max 2 (ak_ e.s)) (nx+1) ha hpk.1 (by omega)
   have B:=aci_ d _ (ak_ e.s+1) (nx+1+cnt (e.kids.getD 0 E0)) hb hpk.2 (by omega)
   rw[jx_ k hl]
   have core:abm_ (src (e.kids.getD 0 E0) (max 2 (ak_ e.s)) (nx+1)++(e.s,nx)::src (e.kids.getD 1 E0) (ak_ e.s+1) (nx+1+cnt (e.kids.getD 0 E0))):=by
    intro p hp h
    rcases List.mem_append.1 hp with hp|hp
    ·exact A p hp h
    rcases List.mem_cons.1 hp with rfl|hp
    ·dsimp only at h;omega
    exact B p hp h
   cases decide (ak_ e.s<must)with
   |false=>exact core
   |true=>
    intro p hp h
    simp only[brk,if_true,List.mem_cons,List.mem_append,List.not_mem_nil,or_false]at hp
    rcases hp with rfl|hp|rfl
    ·exact .inl rfl
    ·exact core p (by simpa using hp) h
    exact .inr rfl
  rw[vd_]at hp;simp[h1.1]at hp
theorem Ltr.of {L P:Wd}:∀ {B C:Wd},abm_ B→Trc L B C→Ltr (P++L) B (shf P.length C)
 |[],[],_,_=>by simp[shf,Ltr]
 |[],_::_,_,h=>by simp[Trc]at h
 |_::_,[],_,h=>by simp[Trc]at h
 |w::B,c::C,hb,h=>by
  simp only[Trc]at h
  have ih:=Ltr.of (P:=P) (fun p hp=>hb p (List.mem_cons_of_mem _ hp)) h.2.2
  simp only[shf,List.map_cons,Ltr]at ih ⊢
  rcases h.2.1 with⟨h1,h2⟩|⟨h1,h2,h3⟩
  ·rw[if_neg (by omega)]
   refine⟨h.1,.inl ⟨h1,h2,?_⟩,ih⟩
   rcases hb w List.mem_cons_self h1 with q|q
   ·exact .inl q
   exact .inr (.inl q)
  rw[if_pos h2]
  refine⟨h.1,.inr ⟨h1,by dsimp only;omega,w,?_,rfl,.inl rfl⟩,ih⟩
  dsimp only
  rw[show(c.2+(P.length:Int)).toNat=P.length+c.2.toNat by omega,List.getElem?_append_right (by omega),Nat.add_sub_cancel_left]
  exact h3
theorem p4_ {e:E} (h:eok e=true) (P:Wd) (nx:Int) (hn:0≤nx):Ltr (P++src e 0 nx) (src (bare e) 0 nx) (shf P.length (l8 e 1 1)):=by
 have hb:=f9_ 5 e (ao_ h)
 have T:=k8_ 5 e 1 1 nx (ao_ h) (by decide) (by decide) hn
 rw[auj_ (ao_ h),auj_ hb.1]at T
 exact Ltr.of (aci_ 5 _ 0 nx hb.1 (mf_ e (je_ h)) hn) T
theorem vm_ {s:Sl} (h:b9_ s=true):Ltr (dm_ s) (et_ (bof s)) (l8L s):=by
 obtain⟨h0,h1,h2⟩:=hc_ h
 unfold dm_ et_ bof l8L
 rcases h0 with k|k|k|k
 ·simp[k,Ltr]
 ·have q:=p4_ (h1 (.inl k)) [(jl_,100),(s.name,101),(bz_, -1),(s.type, -1),(wEq,102)] 0 (by decide)
  simp only[k,if_true,show ¬(1:Int)=0 by omega,if_false]
  simp only[List.cons_append,List.nil_append,List.length_cons,List.length_nil]at q
  simp only[Ltr]
  exact⟨trivial,.inr ⟨by decide,by decide,(s.name,101),rfl,rfl,.inl rfl⟩,trivial,.inr ⟨by decide,by decide,(wEq,102),rfl,rfl,.inl rfl⟩,q⟩
 ·have q:=p4_ (h1 (.inr (.inl k))) [(bp_,103)] 0 (by decide)
  simp only[k,if_true,show ¬(2:Int)=0 by omega,show ¬(2:Int)=1 by omega,if_false]
  simp only[List.cons_append,List.nil_append,List.length_cons,List.length_nil]at q
  simp only[Ltr]
  exact⟨trivial,.inr ⟨by decide,by decide,(bp_,103),rfl,rfl,.inr (.inl ⟨rfl,trivial⟩)⟩,q⟩
 have he:=h1 (.inr (.inr k))
 have q:=p4_ he [(c8_,100)] 0 (by decide)
 have hc:=(cw_ 5 _ 0 (ao_ he)).2.2.2
 have q2:=p4_ (h2 k) ((c8_,100)::src s.expr 0 0++[(bp_,103)]) (cnt s.expr) (by omega)
 have hl:(src s.expr 0 0).length=(wds s.expr 1).length:=by rw[qu_,fa_ (ao_ he)]
 simp only[k,if_true,show ¬(3:Int)=0 by omega,show ¬(3:Int)=1 by omega,show ¬(3:Int)=2 by omega,if_false]
 rw[lr_ 5 _ (ao_ he)]
 refine Ltr.app (Ltr.app (B:=(wIf,100)::_) (C:=(wIf,0)::_) ?_ ?_) ?_
 ·simp only[List.cons_append,List.nil_append,List.length_cons,List.length_nil]at q
  simp only[Ltr]
  refine⟨trivial,.inr ⟨by decide,by decide,(c8_,100),rfl,rfl,.inr (.inr ⟨rfl,trivial⟩)⟩,?_⟩
  have:=(q.right (Q:=[(bp_,103)])).right (Q:=src s.thn 0 (cnt s.expr))
  simpa using this
 ·simp only[Ltr]
  refine⟨trivial,.inl ⟨trivial,trivial,.inr (.inr trivial)⟩,trivial,.inr ⟨by decide,by omega,(bp_,103),?_,rfl,.inr (.inl ⟨rfl,trivial⟩)⟩,trivial⟩
  rw[←hl,show(((src s.expr 0 0).length:Int)+1).toNat=(src s.expr 0 0).length+1 by omega]
  simp
 have e2:((((c8_,100)::src s.expr 0 0++[(bp_,103)]:Wd).length:Nat):Int)=((wds s.expr 1).length:Int)+2:=by rw[←hl];simp;omega
 rw[e2]at q2
 simpa using q2
theorem ade_ {s:Sl} (h:b9_ s=true):(ids (dm_ s)).Nodup:=by
 obtain⟨h0,h1,h2⟩:=hc_ h
 have I:∀e:E,eok e=true→∀nx:Int,0≤nx→nx≤12→(ids (src e 0 nx)).Nodup∧∀i∈ids (src e 0 nx),nx≤i∧i<nx+cnt e∧i<100:=fun e he nx hn hn2=>by
  have:=tj_ 5 e 0 nx (ao_ he) hn
  have hc:=nt_ he
  exact⟨this.1,fun i hi=>by have:=this.2 i hi;omega⟩
 unfold dm_
 rcases h0 with k|k|k|k
 ·simp[k,ids]
 ·obtain⟨i1,i2⟩:=I _ (h1 (.inl k)) 0 (by decide) (by decide)
  simp only[k,if_true,ko_,show(0:Int)≤100 by omega,show(0:Int)≤101 by omega,show(0:Int)≤102 by omega,show ¬(0:Int)≤ -1 by omega,if_false]
  simp only[List.nodup_cons,List.mem_cons]
  exact⟨fun h=>by rcases h with h|h|h;omega;omega;have:=i2 _ h;omega,fun h=>by rcases h with h|h;omega;have:=i2 _ h;omega,fun h=>by have:=i2 _ h;omega,i1⟩
 ·obtain⟨i1,i2⟩:=I _ (h1 (.inr (.inl k))) 0 (by decide) (by decide)
  simp only[k,if_true,show ¬(2:Int)=1 by omega,if_false,ko_,show(0:Int)≤103 by omega,List.nodup_cons]
  exact⟨fun h=>by have:=i2 _ h;omega,i1⟩
 have he:=h1 (.inr (.inr k))
 have hc:=nt_ he
 obtain⟨i1,i2⟩:=I _ he 0 (by decide) (by decide)
 obtain⟨j1,j2⟩:=I _ (h2 k) (cnt s.expr) (by omega) (by omega)
 rw[if_neg (by omega),if_neg (by omega),if_pos k]
 have e1:ids ((c8_,100)::src s.expr 0 0++[(bp_,103)]++src s.thn 0 (cnt s.expr))=100::(ids (src s.expr 0 0)++103::ids (src s.thn 0 (cnt s.expr))):=by
  simp[t9_,ko_,aky_]
 rw[e1]
 refine List.nodup_cons.2 ⟨fun h=>?_,List.nodup_append.2 ⟨i1,List.nodup_cons.2 ⟨fun h=>by have:=j2 _ h;omega,j1⟩,fun a ha b hb=>?_⟩⟩
 ·rcases List.mem_append.1 h with h|h
  ·have:=i2 _ h;omega
  rcases List.mem_cons.1 h with h|h
  ·omega
  have:=j2 _ h;omega
 have q:=i2 a ha
 rcases List.mem_cons.1 hb with rfl|hb
 ·omega
 have:=j2 b hb;omega
def hy_ (s:Sl):List Int:=(et_ (bof s)).map fun w=>if w.2<0 then -1 else gw_ 0 (dm_ s) w.2
theorem Ltr.len {L:Wd}:∀ {B C:Wd},Ltr L B C→C.length=B.length
 |[],[],_=>rfl
 |[],_::_,h=>by simp[Ltr]at h
 |_::_,[],h=>by simp[Ltr]at h
 |w::B,c::C,h=>by
  simp only[Ltr]at h
  simp only[List.length_cons,h.2.2.len]
theorem Ltr.get {L:Wd}:∀ {B C:Wd},Ltr L B C→∀ {j:Nat} {w:Str × Int},B[j]? = some w→∃c,C[j]? = some c∧c.1=w.1∧((w.2 = -1∧c.2 = -1∧(w.1=[40]∨w.1=[41]∨w.1=bz_))∨(0≤w.2∧0≤c.2∧∃u,L[c.2.toNat]? = some u∧u.2=w.2∧(u.1=w.1∨(u.1=bp_∧w.1=bj_)∨(u.1=c8_∧w.1=wIf))))
 |[],[],_,j,w,hw=>by simp at hw
 |[],_::_,h,_,_,_=>by simp[Ltr]at h
 |_::_,[],h,_,_,_=>by simp[Ltr]at h
 |v::B,c::C,h,j,w,hw=>by
  simp only[Ltr]at h
  cases j with
  |zero=>
   simp only[List.getElem?_cons_zero,Option.some.injEq]at hw;subst hw
   exact⟨c,rfl,h.1,h.2.1⟩
  |succ j=>
   simp only[List.getElem?_cons_succ]at hw ⊢
   exact h.2.2.get hw
theorem abg_ {s:Sl} (h:b9_ s=true):lz_ s=hy_ s:=by
 have T:=vm_ h
 have hn:=ade_ h
 have hm:=tg_ h
 unfold lz_ hy_
 apply List.ext_getElem?
 intro j
 rw[List.getElem?_map,List.getElem?_map]
 cases hj:(et_ (bof s))[j]? with
 |none=>
  have:(l8L s)[j]? = none:=List.getElem?_eq_none (by rw[T.len];exact List.getElem?_eq_none_iff.1 hj)
  rw[this];rfl
 |some w=>
  obtain⟨c,c1,c2,c3⟩:=T.get hj
  rw[c1]
  simp only[Option.map_some,Option.some.injEq]
  rcases c3 with⟨q1,q2,_⟩|⟨q1,q2,u,q3,q4,_⟩
  ·rw[if_pos (by omega),if_pos (by omega)]
  rw[if_neg (by omega),if_neg (by omega)]
  have:=qi_ 0 hn q3 (by omega)
  rw[hm,q4]at this
  rw[List.getD_eq_getElem?_getD,this];rfl
theorem awv_ {s:Sl} (h:b9_ s=true) {w:Str × Int} (hw:w∈et_ (bof s)) (h0:0≤w.2):w.2∈ids (dm_ s):=by
 obtain⟨j,hj⟩:=List.mem_iff_getElem?.1 hw
 obtain⟨c,_,_,c3⟩:=(vm_ h).get hj
 rcases c3 with⟨q1,_⟩|⟨_,_,u,q3,q4,_⟩
 ·omega
 exact aao_.2 ⟨List.mem_map.2 ⟨u,List.mem_of_getElem? q3,q4⟩,h0⟩
theorem a0w_ {s:Sl} (h:b9_ s=true):∀p∈l8L s,p.2<((sw' s).length:Int):=fun p hp=>by
 have T:=vm_ h
 obtain⟨j,hj⟩:=List.mem_iff_getElem?.1 hp
 have hl:=(List.getElem?_eq_some_iff.1 hj).1
 rw[T.len]at hl
 obtain⟨c,c1,_,c3⟩:=T.get (List.getElem?_eq_getElem hl)
 rw[hj]at c1;cases c1
 rcases c3 with⟨_,q2,_⟩|⟨_,q2,u,q3,_⟩
 ·omega
 have:=(List.getElem?_eq_some_iff.1 q3).1
 have e:(dm_ s).length=(sw' s).length:=by rw[←tg_ h,List.length_map]
 omega
end
section
theorem akc_ {s:Sl} (h:b9_ s=true):wf s.expr=true∧wf s.thn=true:=by
 unfold b9_ at h
 by_cases k0:s.kind=0
 ·simp[k0,cy_]at h;rw[h.1.2,h.2];exact⟨sx_,sx_⟩
 by_cases k1:s.kind=1
 ·simp[k1,cy_]at h;rw[h.2];exact⟨je_ h.1.2,sx_⟩
 by_cases k2:s.kind=2
 ·simp[k2,cy_]at h;rw[h.2];exact⟨je_ h.1.2,sx_⟩
 by_cases k3:s.kind=3
 ·simp[k3]at h;exact⟨je_ h.1.2,je_ h.2⟩
 simp[k0,k1,k2,k3]at h
theorem a10_:smb B0=true:=by decide
attribute [local go_sem] a9_ cp_ in
theorem aqy_ (s:Sl) (hs:d6_ s=true) (w1:wf s.expr=true) (w2:wf s.thn=true):ACall En 134 [.ag (sC s)] [] [.ag (bC (bof s))] []:=by
 obtain⟨s1,s2,s3,s4⟩:=gl_ hs
 refine aa_ [] Tryz.func134 Tryz.ntmps134 fun C=>?_
 refine .seq (.rg [] ?_)
 refine .seq (.rg [] ?_)
 refine .seq (.seq (.rg [] ?_))
 refine .cB (fun h11=>?_) fun h11=>?_
 ·refine .rg [ab_ (tf_ s.expr w1 s3)] ?_
  refine .seq (.seq (.rg [] ?_))
  refine .cB (fun h18=>?_) fun h18=>?_
  ·refine .rg [ab_ (tf_ s.thn w2 s4)] ?_
   refine .seq (.rg [] ?_)
   refine .ret ⟨.inr rfl,Out.pQ Tryz.results134 ?_⟩;simp at h11 h18;simp[bof,h11,h18,cp_,fw_,fs_,ft_,bq_,b6_,ler,ad_]
  refine .skip (.seq (.rg [] ?_))
  refine .ret ⟨.inr rfl,Out.pQ Tryz.results134 ?_⟩;simp at h11 h18;simp[bof,h11,h18,cp_,fw_,fs_,ft_,bq_,b6_,ler,ad_]
 refine .skip (.seq (.seq (.rg [] ?_)))
 refine .cB (fun h18=>?_) fun h18=>?_
 ·refine .rg [ab_ (tf_ s.thn w2 s4)] ?_
  refine .seq (.rg [] ?_)
  refine .ret ⟨.inr rfl,Out.pQ Tryz.results134 ?_⟩;simp at h11 h18;omega
 refine .skip (.seq (.rg [] ?_))
 refine .ret ⟨.inr rfl,Out.pQ Tryz.results134 ?_⟩;simp at h11 h18;simp[bof,h11,h18,cp_,fw_,fs_,ft_,bq_,b6_,ler,ad_]
end
section
def emT (s:Sl):Str:=if sok s then ap_ (bw (bof s))else []
def emF (s:Sl):List Int:=if sok s then hy_ s else []
theorem arn_ {s:Sl} (h:b9_ s=true):wid (sw' s)≤1000:=by
 have:=o9_ h
 have h2:=ah0_ (fun s hs=>(this.2 s hs).2)
 rw[amd_];omega
theorem hn_ (s:Sl):(lz_ s).length=(l8L s).length:=by simp[lz_]
theorem xu_ {s:Sl} {k:Nat} (h:k<(l8L s).length):(lz_ s).getD k 0=if ((l8L s).getD k ([],0)).2<0 then -1 else(b3_ 0 (sw' s)).getD ((l8L s).getD k ([],0)).2.toNat 0:=by
 simp[lz_,List.getD_eq_getElem?_getD,List.getElem?_eq_getElem h]
theorem ac2_ {l:List Int} {k:Nat} (h:k<l.length):inR (l.take (k+1))=inR (l.take k)++[[.i .i64 (l.getD k 0)]]:=by
 rw[List.take_add_one,List.getElem?_eq_getElem h,tx_,List.getD_eq_getElem?_getD,List.getElem?_eq_getElem h];rfl
theorem yv_ {l:List Str} {k:Nat} (h:k<l.length):ai_ (l.take (k+1))=ai_ (l.take k)++[[.s (l.getD k [])]]:=by
 rw[List.take_add_one,List.getElem?_eq_getElem h,fr_,List.getD_eq_getElem?_getD,List.getElem?_eq_getElem h];rfl
theorem au9_ {l:Wd} {k:Nat} (h:k<l.length):(l.map (·.1)).getD k []=(l.getD k ([],0)).1:=by
 simp[List.getD_eq_getElem?_getD,List.getElem?_eq_getElem h]
attribute [local go_sem] a9_ ci_ dp_ af_ ah_ a2_ al_ cn_ in
theorem afc_ (s:Sl) (hs:d6_ s=true):ACall En 54 [.ag (sC s)] [] [.s (emT s),.sl false (inR (emF s))] []:=by
 have L:sok s=true→(l8L s).length≤76:=fun h=>by have:=(nu_ (iy_ (de_ h))).1;have:=(ig_ (de_ h)).1;omega
 have hm:sok s=true→(l8L s).map (·.1)=bw (bof s):=fun h=>(ig_ (de_ h)).2
 refine aa_ [] Tryz.func54 Tryz.ntmps54 fun C=>?_
 refine .seq (.rg [] ?_)
 refine .seq (.seq (.rg [ab_ (mw_ s hs)] ?_))
 refine .cB (fun h11=>?_) fun h11=>?_
 ·refine .seq (.rg [] ?_)
  refine .ret ⟨.inr rfl,Out.pQ Tryz.results54 ?_⟩;simp at h11;simp[emT,emF,h11,inR,ler]
 refine .skip (.seq (.rgo [a0_ (sok s=true) (fun h=>asg_ s (de_ h) hs)] ?_ ?_))
 ·simpa using h11
 refine .seq (.rgo [a0_ (sok s=true) (fun h=>km_ s (de_ h) hs),a0_ (sok s=true) (fun h=>ap8_ (sw' s) (by have:=(o9_ (de_ h)).1;omega) (by have:=arn_ (de_ h);omega))] ?_ ?_)
 ·simpa using h11
 refine .seq (.rg [] ?_)
 refine .seq (.rg [] ?_)
 refine .seq (.seq (.rg [] ?_))
 refine .block (.loopK (fun k:Nat=>⟨[.no,.no,.no,.no,.sl false (wdR (l8L s)),.sl false (inR (b3_ 0 (sw' s))),.ow 60 1 0 k,.ow 61 1 0 k,.i .i64 k,.no,.no,.no,.no,.no,.no,.no,.no,.no,.no,.no,.no,.no,.no,.no,.no,.no,.no,.no,.no,.no,.no,.no,.no,.no,.no,.no,.no,.no,.no,.no,.no,.no,.no,.no,.no,.no,.no,.no,.no,.no,.no,.no,.no,.no,.no,.no,.no],ae_ [(60,⟨9,1,ai_ ((bw (bof s)).take k)⟩),(61,⟨3,1,inR ((lz_ s).take k)⟩)],us [60,61]⟩) (fun k:Nat=>k≤(l8L s).length∧sok s=true) (fun k:Nat=>(l8L s).length - k) (0) ?_ ?_ (fun k hI=>?_))
 ·exact⟨by simp,by simpa using h11⟩
 ·refine Can.trans (Can.ownSlot 6 60 9 1 (by simp only[go_sem,seval]<;>rfl) (by simp only[go_sem,seval]) (by simp only[go_sem,seval]<;>rfl)) ?_
  refine Can.trans (Can.ownSlot 7 61 3 1 (by simp only[go_sem,seval]<;>rfl) (by simp only[go_sem,seval]) (by simp only[go_sem,seval]<;>rfl)) ?_
  refine Can.wk ?_ ?_
  ·trivial
  simp[ai_,inR]
 refine .seq (.seq (.rg [] ?_))
 refine .cB (fun h23=>?_) fun h23=>?_
 ·refine .skip (.seqJ (fun u:Unit=>⟨[.no,.no,.no,.no,.sl false (wdR (l8L s)),.sl false (inR (b3_ 0 (sw' s))),.ow 43 1 0 (k+1),.ow 61 1 0 (k+1),.i .i64 k,.no,.no,.no,.no,.no,.no,.no,.no,.no,.no,.no,.no,.no,.no,.no,.no,.no,.no,.no,.no,.no,.no,.no,.no,.no,.no,.no,.no,.no,.no,.no,.no,.no,.no,.no,.no,.no,.no,.no,.no,.no,.no,.no,.no,.no,.no,.no,.no],ae_ [(43,⟨9,1,ai_ ((bw (bof s)).take (k+1))⟩),(61,⟨3,1,inR ((lz_ s).take (k+1))⟩)],us [43,61]⟩) (fun u:Unit=>True) ?_ (fun u hJ=>?_))
  ·refine .block (.seq (.rgo [] ?_ ?_ (h:=by simp only[go_sem,seval,jy_ (show k<(l8L s).length by simpa using h23)];rfl)))
   ·simp only[decide_eq_true_eq]at h23;have q:=L hI.2;have q2:=(ig_ (de_ hI.2)).1;simp;omega
   refine .seq (.rgo [] ?_ ?_ (h:=by simp only[go_sem,seval,jy_ (show k<(l8L s).length by simpa using h23)];rfl))
   ·((simp at h23;simp;omega))
   refine .cB (fun h39=>?_) fun h39=>?_
   ·refine .rgo [] ?_ ?_
    ·simp only[decide_eq_true_eq]at h23;have q:=L hI.2;have q2:=hn_ s;simp;omega
    refine Exists.intro (()) ⟨?_,?_⟩
    ·trivial
    refine Can.trans (Can.sX 52 61) ?_
    refine Can.wk ?_ ?_
    ·trivial
    (simp only[decide_eq_true_eq]at h23);(have q2:=(ig_ (de_ hI.2)).1);rw[yv_ (show k<(bw (bof s)).length by omega),ac2_ (show k<(lz_ s).length by rw[hn_];omega),xu_ (show k<(l8L s).length by omega),←hm hI.2,au9_ (show k<(l8L s).length by omega)];((simp only[decide_eq_true_eq]at h39;rw[if_pos h39];simp;done))
   refine .rgo [] ?_ ?_ (h:=by simp only[go_sem,seval,jy_ (show k<(l8L s).length by simpa using h23),c1_ (show((l8L s).getD k ([],0)).2.toNat<(b3_ 0 (sw' s)).length by have:=a0w_ (de_ hI.2) _ (ag_ (d:=([],0)) (show k<(l8L s).length by simpa using h23));simp only[decide_eq_false_iff_not]at h39;rw[cn_];omega)];rfl)
   ·simp only[decide_eq_true_eq]at h23;simp only[decide_eq_false_iff_not]at h39;have q:=L hI.2;have q2:=hn_ s;have q3:=a0w_ (de_ hI.2) _ (ag_ (d:=([],0)) (show k<(l8L s).length by omega));simp[-List.getD_eq_getElem?_getD];omega
   refine Exists.intro (()) ⟨?_,?_⟩
   ·trivial
   refine Can.trans (Can.sX 63 61) ?_
   refine Can.wk ?_ ?_
   ·trivial
   (simp only[decide_eq_true_eq]at h23);(have q2:=(ig_ (de_ hI.2)).1);rw[yv_ (show k<(bw (bof s)).length by omega),ac2_ (show k<(lz_ s).length by rw[hn_];omega),xu_ (show k<(l8L s).length by omega),←hm hI.2,au9_ (show k<(l8L s).length by omega)];((simp only[decide_eq_false_iff_not]at h39;rw[if_neg h39];simp;done))
  refine .rg [] ?_
  refine⟨k+1,?_,?_,?_⟩
  ·simp at h23;exact⟨by omega,hI.2⟩
  ·simp at h23;omega
  refine Can.trans (Can.sX 43 60) ?_
  refine Can.wh ?_;(have q:=L hI.2);rw[ac_ (by simp at h23;omega) (by simp at h23;omega)];simp
 refine .exit (.seq (.rgo [ajg_ (sok s=true) (fun h=>ee_ (bw (bof s)) (by have:=(nu_ (iy_ (de_ h))).1;omega) (by have:=ov_ (iy_ (de_ h));omega))] ?_ ?_))
 ·simp only[decide_eq_false_iff_not]at h23;have q2:=(ig_ (de_ hI.2)).1;obtain rfl:k=(bw (bof s)).length:=(by omega);refine⟨?_,hI.2⟩;rw[List.take_of_length_le (Nat.le_refl _),if_pos (Nat.le_refl _),List.take_of_length_le (by rw[af_];exact Nat.le_refl _)];exact fv_ _
 refine .fX 61 ?_
 refine .ret ⟨.inr rfl,Out.pQ Tryz.results54 ?_⟩;simp at h11;simp only[decide_eq_false_iff_not]at h23;have q2:=(ig_ (de_ hI.2)).1;have q3:=hn_ s;obtain rfl:k=(lz_ s).length:=(by omega);rw[List.take_of_length_le (Nat.le_refl _),if_pos (Nat.le_refl _),List.take_of_length_le (by rw[a2_];exact Nat.le_refl _),abg_ (de_ hI.2)];simp[emT,emF,h11,peel,ad_,fv_]
theorem at8_:En.P.underlying 153=some (.map 3 3):=Tryz.underlying153
theorem arc_:En.P.underlying 3=some (.int .i64):=Tryz.underlying3
theorem avs_ {s:Sl} (h:b9_ s=true):(dm_ s).length≤76∧ic_ (dm_ s)≤1000:=by
 have h1:=(o9_ h).1
 have h2:=arn_ h
 rw[←tg_ h]at h1 h2
 exact⟨by simpa using h1,by unfold ic_;omega⟩
theorem ar7_ {b:Bl} (h:cx_ b=true):(et_ b).length≤76:=by
 have h1:=(nu_ h).1
 rw[←alf_ h]at h1
 simpa using h1
theorem aot_ (s:Sl):(hy_ s).length=(et_ (bof s)).length:=by simp[hy_]
theorem yh_ {s:Sl} {k:Nat} (h:k<(et_ (bof s)).length):(hy_ s).getD k 0=if ((et_ (bof s)).getD k ([],0)).2<0 then -1 else gw_ 0 (dm_ s) ((et_ (bof s)).getD k ([],0)).2:=by
 simp[hy_,List.getD_eq_getElem?_getD,List.getElem?_eq_getElem h]
theorem amj_ {l:List Int} {k:Nat} (h:k<l.length) (z:List V) {r:List V} (hr:r=[.i .i64 (l.getD k 0)]):(fi_ (inR l) z k).set k r=fi_ (inR l) z (k+1):=by
 rw[hr,←c1_ h];exact jf_ (by rw[a2_];exact h)
theorem azj_ {s:Sl} (h:b9_ s=true) {k:Nat} (hk:k<(et_ (bof s)).length) (h0:0≤((et_ (bof s)).getD k ([],0)).2):lu_ (tb_ (dm_ s) (dm_ s).length) ((et_ (bof s)).getD k ([],0)).2=some (gw_ 0 (dm_ s) ((et_ (bof s)).getD k ([],0)).2):=
 asy_ (ade_ h) (awv_ h (ag_ hk) h0)
attribute [local go_sem] a9_ cp_ ci_ dp_ a2_ al_ gm_ a5_ in
theorem a1r_ (s:Sl) (h:b9_ s=true) (hs:d6_ s=true):ACall En 74 [.ag (sC s)] [] [.s (ap_ (bw (bof s))),.ow 0 1 0 (hy_ s).length] [⟨3,1,inR (hy_ s)⟩]:=by
 obtain⟨l1,l2⟩:=avs_ h
 have hb:=iy_ h
 have hsb:=ayz_ hs
 have l3:=ar7_ hb
 have W:=agi_ s h hs
 have Cl:=anp_ (dm_ s) (by omega) (by omega)
 have Bo:=aqy_ s hs (akc_ h).1 (akc_ h).2
 have Bw:=agq_ (bof s) hb hsb
 have Bt:=t4_ (bof s) hb hsb
 have hfl:=aot_ s
 have hll:(inR (hy_ s)).length=(et_ (bof s)).length:=by rw[a2_,hfl]
 have hp:∀k,bg_ (fi_ (inR (hy_ s)) [.i .i64 0] k)=true:=fun k=>iq_ (al_ _) rfl
 have hd1:∀k j,((fi_ (inR (hy_ s)) [.i .i64 0] k).getD j []).drop 1=[]:=agc_ _ _ (fun r hr=>alc_ hr) rfl
 have hcl:(b3_ 0 ((dm_ s).map (·.1))).length=(dm_ s).length:=by rw[cn_,List.length_map]
 refine aa_ [46] Tryz.func74 Tryz.ntmps74 fun C=>?_
 refine .seq (.rg [] ?_ (h:=by simp only[go_sem,seval,hcl,hll,hp,hd1];rfl))
 refine .seq (.rgS [12] [az2_ En 70] ?_ (h:=by simp only[go_sem,seval,hcl,hll,hp,hd1];rfl))
 refine .seq (.rg [ab_ W] ?_ (h:=by simp only[go_sem,seval,hcl,hll,hp,hd1];rfl))
 refine .seq (.seq (.rg [ab_ Cl] ?_ (h:=by simp only[go_sem,seval,hcl,hll,hp,hd1];rfl)))
 refine .block (.loopK (fun k:Nat=>⟨[.no,.pt 11 11 0 0,.no,.no,.pt 70 0 0 0,.sl false (wdR (dm_ s)),.no,.no,.no,.no,.no,.no,.no,.no,.no,.no,.sl false (inR (b3_ 0 ((dm_ s).map (·.1)))),.i .i64 (dm_ s).length,.i .i64 k,.no,.no,.no,.no,.no,.no,.no,.no,.no,.no,.no,.no,.no,.no,.no,.no,.no,.no,.no,.no,.no,.no,.no,.no,.no,.no,.no,.no,.no,.no,.no,.no,.no,.no,.no,.no,.no,.no,.no,.no,.no,.no,.no],ae_ [(11,⟨58,11,[sC s]⟩),(70,⟨0,0,mR (tb_ (dm_ s) k)⟩)],us [11,70]⟩) (fun k:Nat=>k≤(dm_ s).length) (fun k:Nat=>(dm_ s).length - k) (0) ?_ ?_ (fun k hI=>?_))
 ·simp
 ·exact Can.wl (h:=by simp only[go_sem,seval,hcl,hll,hp,hd1,av_,leV,as_,au_,V.inn,us,true_or,or_true]<;>(simp)) (hi:=by simp only[go_sem,seval,hcl,hll,hp,hd1,av_,leV,as_,au_,V.inn,us,true_or,or_true]) (hL:=by simp only[go_sem,seval,hcl,hll,hp,hd1,av_,leV,as_,au_,V.inn,us,true_or,or_true]<;>(simp[an4_,mR,a9_]))
 refine .seq (.rg [] ?_ (h:=by simp only[go_sem,seval,hcl,hll,hp,hd1];rfl))
 refine .seq (.cB (fun h19=>?_) (fun h19=>?_) (hc:=by simp only[go_sem,seval,hcl,hll,hp,hd1];rfl) (hp:=by simp only[go_sem,seval,hcl,hll,hp,hd1]))
 ·refine .skip (.seq (.block (.seq (.rgo [] ?_ ?_ (h:=by simp only[go_sem,seval,hcl,hll,hp,hd1,c1_ (show k<(b3_ 0 ((dm_ s).map (·.1))).length by rw[hcl];simpa using h19)];rfl)))))
  ·simp only[decide_eq_true_eq]at h19;omega
  refine .rgSo [0] [az3_ En 70 (tb_ (dm_ s) k) 153 3 3 ((dm_ s).getD k ([],0)).2 ((b3_ 0 ((dm_ s).map (·.1))).getD k 0) at8_ arc_] ?_ ?_ (h:=by simp only[go_sem,seval,hcl,hll,hp,hd1,jy_ (show k<(dm_ s).length by simpa using h19)];rfl)
  ·simp only[decide_eq_true_eq]at h19;omega
  refine .rg [] ?_ (h:=by simp only[go_sem,seval,hcl,hll,hp,hd1];rfl)
  refine⟨k+1,?_,?_,?_⟩
  ·simp at h19;omega
  ·simp at h19;omega
  exact Can.wl (h:=by simp only[go_sem,seval,hcl,hll,hp,hd1,av_,leV,as_,au_,V.inn,us,true_or,or_true]<;>(rw[ac_ (by simp at h19;omega) (by simp at h19;omega)];simp)) (hi:=by simp only[go_sem,seval,hcl,hll,hp,hd1,av_,leV,as_,au_,V.inn,us,true_or,or_true]) (hL:=by simp only[go_sem,seval,hcl,hll,hp,hd1,av_,leV,as_,au_,V.inn,us,true_or,or_true]<;>(rw[and_ (show k<(dm_ s).length by simpa using h19)]))
 refine .exit (.seq (.rg [ab_ Bo,ab_ Bw] ?_ (h:=by simp only[go_sem,seval,hcl,hll,hp,hd1];rfl)))
 refine .seq (.rgo [] ?_ ?_ (h:=by simp only[go_sem,seval,hcl,hll,hp,hd1];rfl))
 ·omega
 refine .seq (.seq (.rg [] ?_ (h:=by simp only[go_sem,seval,hcl,hll,hp,hd1];rfl)))
 refine .block (.loopK (fun k:Nat=>⟨[.no,.pt 11 11 0 0,.no,.no,.pt 70 0 0 0,.no,.no,.no,.no,.ow 46 1 0 (et_ (bof s)).length,.no,.no,.no,.no,.no,.no,.no,.no,.no,.no,.no,.no,.no,.no,.no,.no,.no,.no,.no,.no,.no,.no,.no,.no,.no,.no,.no,.sl false (wdR (et_ (bof s))),.i .i64 (et_ (bof s)).length,.i .i64 k,.no,.no,.no,.no,.no,.no,.no,.no,.no,.no,.no,.no,.no,.no,.no,.no,.no,.no,.no,.no,.no,.no],ae_ [(11,⟨58,11,[sC s]⟩),(70,⟨0,0,mR (tb_ (dm_ s) (dm_ s).length)⟩),(46,⟨3,1,fi_ (inR (hy_ s)) [.i .i64 0] k⟩)],us [11,46,70]⟩) (fun k:Nat=>k≤(et_ (bof s)).length) (fun k:Nat=>(et_ (bof s)).length - k) (0) ?_ ?_ (fun k hI=>?_))
 ·simp
 ·exact Can.wl (h:=by simp only[go_sem,seval,hcl,hll,hp,hd1,av_,leV,as_,au_,V.inn,us,true_or,or_true]<;>(simp)) (hi:=by simp only[go_sem,seval,hcl,hll,hp,hd1,av_,leV,as_,au_,V.inn,us,true_or,or_true]) (hL:=by simp only[go_sem,seval,hcl,hll,hp,hd1,av_,leV,as_,au_,V.inn,us,true_or,or_true]<;>((simp only[decide_eq_false_iff_not]at h19);(obtain rfl:k=(dm_ s).length:=(by omega));simp[it_,hll]))
 refine .seq (.rg [] ?_ (h:=by simp only[go_sem,seval,hcl,hll,hp,hd1];rfl))
 refine .seq (.cB (fun h40=>?_) (fun h40=>?_) (hc:=by simp only[go_sem,seval,hcl,hll,hp,hd1];rfl) (hp:=by simp only[go_sem,seval,hcl,hll,hp,hd1]))
 ·refine .skip (.seqJ (fun u:Unit=>⟨[.no,.pt 11 11 0 0,.no,.no,.pt 70 0 0 0,.no,.no,.no,.no,.ow 46 1 0 (et_ (bof s)).length,.no,.no,.no,.no,.no,.no,.no,.no,.no,.no,.no,.no,.no,.no,.no,.no,.no,.no,.no,.no,.no,.no,.no,.no,.no,.no,.no,.sl false (wdR (et_ (bof s))),.i .i64 (et_ (bof s)).length,.i .i64 k,.no,.no,.no,.no,.no,.no,.no,.no,.no,.no,.no,.no,.no,.no,.no,.no,.no,.no,.no,.no,.no,.no],ae_ [(11,⟨58,11,[sC s]⟩),(70,⟨0,0,mR (tb_ (dm_ s) (dm_ s).length)⟩),(46,⟨3,1,fi_ (inR (hy_ s)) [.i .i64 0] (k+1)⟩)],us [11,46,70]⟩) (fun u:Unit=>True) ?_ (fun u hJ=>?_))
  ·refine .block (.seq (.rgo [] ?_ ?_ (h:=by simp only[go_sem,seval,hcl,hll,hp,hd1,jy_ (show k<(et_ (bof s)).length by simpa using h40)];rfl)))
   ·simp only[decide_eq_true_eq]at h40;omega
   refine .seq (.rgo [] ?_ ?_ (h:=by simp only[go_sem,seval,hcl,hll,hp,hd1];rfl))
   ·simp only[decide_eq_true_eq]at h40;omega
   refine .seq (.rg [] ?_ (h:=by simp only[go_sem,seval,hcl,hll,hp,hd1];rfl))
   refine .cB (fun h49=>?_) (fun h49=>?_) (hc:=by simp only[go_sem,seval,hcl,hll,hp,hd1];rfl) (hp:=by simp only[go_sem,seval,hcl,hll,hp,hd1])
   ·refine .rgSo [55] [a0n_ En 70 (tb_ (dm_ s) (dm_ s).length) 153 3 3 ((et_ (bof s)).getD k ([],0)).2 (gw_ 0 (dm_ s) ((et_ (bof s)).getD k ([],0)).2) at8_ arc_] ?_ ?_ (h:=by simp only[go_sem,seval,hcl,hll,hp,hd1];rfl)
    ·simp only[decide_eq_true_eq]at h40 h49;refine⟨⟨azj_ h (by omega) (by omega),by omega⟩,?_⟩;rw[List.length_set,gm_,hll];omega
    refine Exists.intro (()) ⟨?_,?_⟩
    ·trivial
    exact Can.wl (h:=by simp only[go_sem,seval,hcl,hll,hp,hd1,av_,leV,as_,au_,V.inn,us,true_or,or_true]) (hi:=by simp only[go_sem,seval,hcl,hll,hp,hd1,av_,leV,as_,au_,V.inn,us,true_or,or_true]) (hL:=by simp only[go_sem,seval,hcl,hll,hp,hd1,av_,leV,as_,au_,V.inn,us,true_or,or_true]<;>((simp only[decide_eq_true_eq]at h40);(have q:=yh_ (show k<(et_ (bof s)).length by omega));(have q2:k<(hy_ s).length:=(by omega));((simp only[decide_eq_true_eq]at h49;rw[if_neg (by omega)]at q;rw[List.set_set,←q,amj_ q2 [.i .i64 0]];congr 1;(have q3:k<(fi_ (inR (hy_ s)) [.i .i64 0] k).length:=(by rw[gm_,hll];omega));simp[List.getD_eq_getElem?_getD,q3];done))))
   refine .skip ?_
   refine Exists.intro (()) ⟨?_,?_⟩
   ·trivial
   exact Can.wl (h:=by simp only[go_sem,seval,hcl,hll,hp,hd1,av_,leV,as_,au_,V.inn,us,true_or,or_true]) (hi:=by simp only[go_sem,seval,hcl,hll,hp,hd1,av_,leV,as_,au_,V.inn,us,true_or,or_true]) (hL:=by simp only[go_sem,seval,hcl,hll,hp,hd1,av_,leV,as_,au_,V.inn,us,true_or,or_true]<;>((simp only[decide_eq_true_eq]at h40);(have q:=yh_ (show k<(et_ (bof s)).length by omega));(have q2:k<(hy_ s).length:=(by omega));((simp only[decide_eq_false_iff_not]at h49;rw[if_pos (by omega)]at q;rw[amj_ q2 [.i .i64 0] (by rw[q])];done))))
  refine .rg [] ?_ (h:=by simp only[go_sem,seval,hcl,hll,hp,hd1];rfl)
  refine⟨k+1,?_,?_,?_⟩
  ·simp at h40;omega
  ·simp at h40;omega
  exact Can.wl (h:=by simp only[go_sem,seval,hcl,hll,hp,hd1,av_,leV,as_,au_,V.inn,us,true_or,or_true]<;>(rw[ac_ (by simp at h40;omega) (by simp at h40;omega)];simp)) (hi:=by simp only[go_sem,seval,hcl,hll,hp,hd1,av_,leV,as_,au_,V.inn,us,true_or,or_true]) (hL:=by simp only[go_sem,seval,hcl,hll,hp,hd1,av_,leV,as_,au_,V.inn,us,true_or,or_true])
 refine .exit (.seq (.rg [ab_ Bo,ab_ Bt] ?_ (h:=by simp only[go_sem,seval,hcl,hll,hp,hd1];rfl)))
 refine .ret ⟨.inr rfl,?_⟩
 exact Out.mm (by simp only[Tryz.results74];rfl) (by simp only[ba_,rns,rn,go_sem,seval,hcl,hll,hp,hd1]<;>(rw[hfl])) (by simp only[aw_,go_sem,seval,hcl,hll,hp,hd1]<;>(simp only[decide_eq_false_iff_not]at h40;rw[kj_ (by rw[hll];omega)])) (h1:=by simp only[a1_,bn_,go_sem,seval,hcl,hll,hp,hd1]) (h6:=by simp only[go_sem,seval,hcl,hll,hp,hd1]) (h7:=by simp only[a5_,go_sem,seval,hcl,hll,hp,hd1])
end
section
def lo_ (b:Str) (q k:Int) (x:Sl):Sl × Int:=
 if k=0 then({ x with kind:=ob_ b q [0,4,1,2,3] },q+1)
 else if k=1 then({ x with name:=ofI b q [[120],[108,101,116],[88],[]] },q+1)
 else if k=2 then({ x with type:=ofI b q [[105,110,116],[116,101,120,116],[]] },q+1)
 else if k=3 then({ x with thn:=(h1_ b q).1 },(h1_ b q).2)
 else(x,q)
def dl5 (b:Str) (p:Int):Sl × Int:=lo_ b ((bm_ b p).2+1) (ay_ b (bm_ b p).2 40) (bm_ b p).1
theorem atv_ (b:Str) {p:Int} (hp:0≤p) (hp2:p<100000000):p≤(dl5 b p).2∧(dl5 b p).2≤p+700∧d6_ (dl5 b p).1=true:=by
 obtain⟨h1,h2,h3,_⟩:=lv_ b hp hp2
 obtain⟨s1,s2,s3,s4⟩:=gl_ h3
 have hB:=awa_ b (p:=(bm_ b p).2+1) (by omega) (by omega)
 unfold dl5 lo_
 split
 ·exact⟨by dsimp only;omega,by dsimp only;omega,h3⟩
 split
 ·have l1:=rd_ (b:=b) (p:=(bm_ b p).2+1) (l:=[[120],[108,101,116],[88],[]]) (by decide) (by omega) (by omega) 5 (by decide)
  refine⟨by dsimp only;omega,by dsimp only;omega,?_⟩
  simp only[d6_,s2,s3,s4,decide_true,Bool.and_true,decide_eq_true_eq];omega
 split
 ·have l1:=rd_ (b:=b) (p:=(bm_ b p).2+1) (l:=[[105,110,116],[116,101,120,116],[]]) (by decide) (by omega) (by omega) 5 (by decide)
  refine⟨by dsimp only;omega,by dsimp only;omega,?_⟩
  simp only[d6_,s1,s3,s4,decide_true,Bool.and_true,Bool.true_and,decide_eq_true_eq];omega
 split
 ·refine⟨by dsimp only;omega,by dsimp only;omega,?_⟩
  simp only[d6_,s1,s2,s3,hB.2.2,decide_true,Bool.and_true]
 exact⟨by dsimp only;omega,by dsimp only;omega,h3⟩
attribute [local go_sem] aw_ a5_ ho_ eo_ e3_ ep_ a9_ in
theorem afs_ (b:Str) (p:Int) (hb:b.length≤2000) (hp:0≤p) (hp2:p<100000000):ACall En 106 [.pt 0 2 0 0] [rdB b p] [.ag (sC (dl5 b p).1)] [rdB b (dl5 b p).2]:=by
 obtain⟨h1,h2,h3,w1,w2,_⟩:=lv_ b hp hp2
 refine aa_ [0] Tryz.func106 Tryz.ntmps106 fun C=>?_
 refine .seq (.rg [] ?_)
 refine .seq (.rg [at_ [0] [] (wz_ b p hb hp hp2)] ?_)
 refine .seq (.seq (.rg [at_ [0] [] (c5_ b (bm_ b p).2 40 hb (by omega) (by omega))] ?_))
 refine .block (.seq (.rg [] ?_))
 refine .cB (fun h8=>?_) fun h8=>?_
 ·refine .rg [at_ [0] [] (w5_ b ((bm_ b p).2+1) [0,4,1,2,3] (by decide) hb (by omega) (by omega))] ?_
  refine .seq (.rg [] ?_)
  refine .ret ⟨.inr rfl,Out.mP Tryz.results106 ?_ ?_⟩
  ·simp at h8;simp[dl5,lo_,h8]
  simp at h8;simp[dl5,lo_,h8]
 refine .seq (.rg [] ?_)
 refine .cB (fun h14=>?_) fun h14=>?_
 ·refine .rg [at_ [0] [] (pt_ b ((bm_ b p).2+1) [[120],[108,101,116],[88],[]] (by decide) hb (by omega) (by omega))] ?_
  refine .seq (.rg [] ?_)
  refine .ret ⟨.inr rfl,Out.mP Tryz.results106 ?_ ?_⟩
  ·simp at h8 h14;simp[dl5,lo_,h8,h14]
  simp at h8 h14;simp[dl5,lo_,h8,h14]
 refine .seq (.rg [] ?_)
 refine .cB (fun h20=>?_) fun h20=>?_
 ·refine .rg [at_ [0] [] (pt_ b ((bm_ b p).2+1) [[105,110,116],[116,101,120,116],[]] (by decide) hb (by omega) (by omega))] ?_
  refine .seq (.rg [] ?_)
  refine .ret ⟨.inr rfl,Out.mP Tryz.results106 ?_ ?_⟩
  ·simp at h8 h14 h20;simp[dl5,lo_,h8,h14,h20]
  simp at h8 h14 h20;simp[dl5,lo_,h8,h14,h20]
 refine .seq (.rg [] ?_)
 refine .cB (fun h26=>?_) fun h26=>?_
 ·refine .rg [at_ [0] [] (aq4_ b ((bm_ b p).2+1) hb (by omega) (by omega))] ?_
  refine .seq (.rg [] ?_)
  refine .ret ⟨.inr rfl,Out.mP Tryz.results106 ?_ ?_⟩
  ·simp at h8 h14 h20 h26;simp[dl5,lo_,h8,h14,h20,h26]
  simp at h8 h14 h20 h26;simp[dl5,lo_,h8,h14,h20,h26]
 refine .skip (.seq (.rg [] ?_))
 refine .ret ⟨.inr rfl,Out.mP Tryz.results106 ?_ ?_⟩
 ·simp at h8 h14 h20 h26;simp[dl5,lo_,h8,h14,h20,h26]
 simp at h8 h14 h20 h26;simp[dl5,lo_,h8,h14,h20,h26]
end
section
def colLe (X Y:Wd):Prop:=ic_ X≤ic_ Y∧∀i,0≤i→((i∈X.map (·.2)↔i∈Y.map (·.2))∧(i∈X.map (·.2)→gw_ 0 X i≤gw_ 0 Y i))
theorem colLe.refl (X:Wd):colLe X X:=⟨Int.le_refl _,fun _ _=>⟨Iff.rfl,fun _=>Int.le_refl _⟩⟩
theorem colLe.app {X X' Y Y':Wd} (h:colLe X X') (k:colLe Y Y'):colLe (X++Y) (X'++Y'):=by
 refine⟨by rw[qa_,qa_];have:=h.1;have:=k.1;omega,fun i hi=>?_⟩
 obtain⟨h1,h2⟩:=h.2 i hi
 obtain⟨k1,k2⟩:=k.2 i hi
 refine⟨by simp only[List.map_append,List.mem_append,h1,k1],fun hm=>?_⟩
 rw[qs_,qs_]
 by_cases hx:i∈X.map (·.2)
 ·rw[if_pos hx,if_pos (h1.1 hx)];exact h2 hx
 rw[if_neg hx,if_neg (fun q=>hx (h1.2 q))]
 have hy:i∈Y.map (·.2):=by
  rw[List.map_append]at hm
  exact(List.mem_append.1 hm).resolve_left hx
 rw[q3_ i (ic_ X) Y 0 hy,q3_ i (ic_ X') Y' 0 (k1.1 hy)]
 have:=k2 hy
 have:=h.1
 omega
theorem colLe.none {Q:Wd} (h:∀p∈Q,p.2 = -1):colLe [] Q:=by
 refine⟨by rw[qk_];exact ua_ Q,fun i hi=>⟨⟨fun q=>by simp at q,fun q=>?_⟩,fun q=>by simp at q⟩⟩
 obtain⟨p,hp,e⟩:=List.mem_map.1 q
 have:=h p hp
 omega
end
section
attribute [local go_sem] a9_ in
theorem aos_ (s:Sl) (hs:d6_ s=true):ACall En 226 [.ag (sC s)] [] [.b (!sok s)] []:=by
 refine aa_ [] Tryz.func226 Tryz.ntmps226 fun C=>?_
 refine .seq (.rg [] ?_)
 refine .seq (.rg [ab_ (rf_ s hs)] ?_)
 refine .ret ⟨.inr rfl,Out.pP Tryz.results226 ?_⟩;trivial
attribute [local go_sem] dy_ c3_ a9_ in
theorem a2y_ (l:List Sl) (hs:p5_ l=true) (hl:l.length<4611686018427387904):ACall En 274 [.sl false (sR l),.fn (.func 226) [] []] [] [.i .i64 (n6_ (fun s=>!sok s) l)] []:=by
 refine aa_ [] Tryz.func274 Tryz.ntmps274 fun C=>?_
 refine .seq (.rg [] ?_)
 refine .seq (.seq (.rg [] ?_))
 refine .block (.loopK (fun k:Nat=>⟨[.sl false (sR l),.fn (.func 226) [] [],.no,.no,.no,.no,.no,.i .i64 l.length,.i .i64 k,.no,.no,.no,.no,.no,.no,.no,.no,.no,.no],ae_ [],us []⟩) (fun k:Nat=>k≤l.length∧(l.take k).any (fun s=>!sok s)=false) (fun k:Nat=>l.length - k) (0) ?_ ?_ (fun k hI=>?_))
 ·simp
 ·refine Can.wh ?_;trivial
 refine .seq (.rg [] ?_)
 refine .seq (.cB (fun h9=>?_) fun h9=>?_)
 ·refine .skip (.seq (.block (.seq (.rg [] ?_))))
  refine .seq (.rgo [a0_ (k<l.length) (fun h=>aos_ (l.getD k S0) (aal_ hs h))] ?_ ?_ (h:=by simp only[go_sem,seval,j6_ (show k<l.length by simpa using h9)];rfl))
  ·simp only[decide_eq_true_eq]at h9;simp;omega
  refine .cB (fun h16=>?_) fun h16=>?_
  ·refine .seq (.rg [] ?_)
   refine .ret ⟨.inr rfl,Out.pP Tryz.results274 ?_⟩;simp at h9;rw[o1_ (d:=S0) h9 hI.2 h16]
  refine .skip (.rg [] ?_)
  refine⟨k+1,?_,?_,?_⟩
  ·simp at h9;refine⟨by omega,?_⟩;rw[i6_ (d:=S0) h9,hI.2,h16];rfl
  ·simp at h9;omega
  refine Can.wh ?_;rw[ac_ (by omega) (by omega)];simp
 refine .exit (.seq (.rg [] ?_))
 refine .ret ⟨.inr rfl,Out.pP Tryz.results274 ?_⟩;simp at h9;have h0:=hI.2;rw[List.take_of_length_le h9]at h0;rw[iu_ h0]
attribute [local go_sem] c3_ in
theorem aek_ (l:List Sl) (hs:p5_ l=true) (hl:l.length<4611686018427387904):ACall En 225 [.sl false (sR l),.fn (.func 226) [] []] [] [.b (l.any fun s=>!sok s)] []:=by
 refine aa_ [] Tryz.func225 Tryz.ntmps225 fun C=>?_
 refine .seq (.rg [] ?_)
 refine .seq (.rg [ab_ (a2y_ l hs hl)] ?_)
 refine .ret ⟨.inr rfl,Out.pP Tryz.results225 ?_⟩;rw[m6_]
def pok (l:List Sl):Bool:=decide (1≤l.length)&&decide (l.length≤16)&&l.all sok
theorem ald_ (l:List Sl):(l.any fun s=>!sok s)=!l.all sok:=by rw[List.any_eq_not_all_not];simp
theorem bd_ {l:List Sl} (h:pok l=true):1≤l.length∧l.length≤16∧∀k,k<l.length→sok (l.getD k S0)=true:=by
 simp only[pok,Bool.and_eq_true,decide_eq_true_eq,List.all_eq_true]at h
 exact⟨h.1.1,h.1.2,fun k hk=>h.2 _ (ag_ hk)⟩
attribute [local go_sem] dy_ c3_ in
theorem r5_ (l:List Sl) (hs:p5_ l=true) (hl:l.length<4611686018427387904):ACall En 158 [.sl false (sR l)] [] [.b (pok l)] []:=by
 refine aa_ [] Tryz.func158 Tryz.ntmps158 fun C=>?_
 refine .seq (.rg [] ?_)
 refine .seq (.rg [ab_ (ta_ l.length 1 16),ab_ (aek_ l hs hl)] ?_)
 refine .ret ⟨.inr rfl,Out.pP Tryz.results158 ?_⟩;rw[ald_];simp only[pok,Bool.not_not,dt_];rfl
attribute [local go_sem] dy_ c3_ a9_ in
theorem rr_ (l:List Sl) (hs:p5_ l=true) (hl:l.length<4611686018427387904):ACall En 191 [.sl false (sR l)] [] [.b (pok l)] []:=by
 refine aa_ [] Tryz.func191 Tryz.ntmps191 fun C=>?_
 refine .seq (.rg [] ?_)
 refine .seq (.seq (.rg [] ?_))
 refine .block (.loopK (fun k:Nat=>⟨[.sl false (sR l),.no,.no,.i .i64 k,.no,.no,.no,.no,.no,.no,.no,.no,.no,.no,.no,.no,.no,.no,.no,.no,.no,.no,.no,.no],ae_ [],us []⟩) (fun k:Nat=>k≤l.length∧(l.take k).any (fun s=>!sok s)=false) (fun k:Nat=>l.length - k) (0) ?_ ?_ (fun k hI=>?_))
 ·simp
 ·refine Can.wh ?_;trivial
 refine .seq (.seq (.rg [] ?_))
 refine .cB (fun h7=>?_) fun h7=>?_
 ·refine .skip (.seq (.block (.seq (.rgo [a0_ (k<l.length) (fun h=>mw_ (l.getD k S0) (aal_ hs h))] ?_ ?_ (h:=by simp only[go_sem,seval,j6_ (show k<l.length by simpa using h7)];rfl)))))
  ·simp only[decide_eq_true_eq]at h7;simp;omega
  refine .cB (fun h15=>?_) fun h15=>?_
  ·refine .seq (.rg [] ?_)
   refine .ret ⟨.inr rfl,Out.pP Tryz.results191 ?_⟩;simp only[decide_eq_true_eq]at h7;have:l.all sok=false:=(by rw[List.all_eq_false];exact⟨_,ag_ (d:=S0) (show k<l.length by omega),by simpa using h15⟩);simp[pok,this]
  refine .skip (.rg [] ?_)
  refine⟨k+1,?_,?_,?_⟩
  ·simp at h7;refine⟨by omega,?_⟩;rw[i6_ (d:=S0) h7,hI.2,h15];rfl
  ·simp at h7;omega
  refine Can.wh ?_;rw[ac_ (by omega) (by omega)];simp
 refine .exit (.seq (.rg [] ?_))
 refine .ret ⟨.inr rfl,Out.pP Tryz.results191 ?_⟩;simp only[decide_eq_false_iff_not]at h7;have h0:=hI.2;rw[List.take_of_length_le (by omega),ald_]at h0;simp only[Bool.not_eq_false']at h0;simp only[pok,h0,Bool.and_true,dt_,ge_iff_le];rfl
def bt_ (l:List Str):Str:=[(10:UInt8)].intercalate l
theorem m4_ (s x:Str) (l:List Str):bt_ (s::x::l)=s++10::bt_ (x::l):=by simp[bt_,List.intercalate]
theorem qt_ (s:Str):bt_ [s]=s:=by simp[bt_,List.intercalate]
theorem qp_:bt_ []=[]:=rfl
theorem ab0_:∀l:List Str,l≠[]→(bt_ l).length+1=(l.map List.length).sum+l.length
 |[],h=>absurd rfl h
 |[s],_=>by rw[qt_];simp
 |s::x::l,_=>by
  have:=ab0_ (x::l) (by simp)
  rw[m4_]
  simp only[List.length_append,List.length_cons,List.map_cons,List.sum_cons]at this ⊢
  omega
theorem aep_ {l:List Str} {k:Nat} (h:∀s∈l,s.length≤k):(bt_ l).length≤l.length * (k+1):=by
 by_cases hl:l=[]
 ·subst hl;simp[qp_]
 have h1:=ab0_ l hl
 have h2:=ah0_ h
 rw[Nat.mul_add];omega
theorem alh_:∀(l:List Str) (s:Str),bt_ (l++[s])=(if l=[]then []else bt_ l++[10])++s
 |[],s=>by simp[qt_]
 |[x],s=>by simp[m4_,qt_]
 |x::y::l,s=>by
  have:=alh_ (y::l) s
  simp only[List.cons_append]at this ⊢
  rw[m4_,m4_,this]
  simp
theorem amk_ {l:List Str} {k:Nat} (h:k<l.length):bt_ (l.take (k+1))=(if 0<k then bt_ (l.take k)++[10]else [])++l.getD k []:=by
 have e:l.take (k+1)=l.take k++[l.getD k []]:=by
  rw[List.take_add_one,List.getElem?_eq_getElem h,List.getD_eq_getElem?_getD,List.getElem?_eq_getElem h];rfl
 rw[e,alh_]
 congr 1
 cases k with
 |zero=>simp
 |succ k=>
  have:l.take (k+1)≠[]:=by
   intro e0
   have:=congrArg List.length e0
   rw[List.length_take]at this
   simp only[List.length_nil]at this
   omega
  rw[if_neg this,if_pos (by omega)]
theorem aur_ {l:List Str} (k:Nat):(bt_ (l.take k)).length≤(bt_ l).length:=by
 by_cases h:l.take k=[]
 ·rw[h];simp[qp_]
 have h1:=ab0_ _ h
 have h2:=ab0_ l (fun e=>h (by rw[e];simp))
 have e:(l.map List.length).sum=((l.take k).map List.length).sum+((l.drop k).map List.length).sum:=by
  conv=>lhs;rw[←List.take_append_drop k l]
  rw[List.map_append,List.sum_append]
 have e2:l.length=(l.take k).length+(l.drop k).length:=by rw[←List.length_append,List.take_append_drop]
 omega
theorem ags_ (l:List Str) (hb:(bt_ l).length≤1000000000000) (hn:l.length≤1000000000000):ACall En 216 [.sl false (ai_ l)] [] [.s (bt_ l)] []:=by
 refine aa_ [] Tryz.func216 Tryz.ntmps216 fun C=>?_
 refine .seq (.rg [] ?_)
 refine .seq (.rg [ab_ (av2_ l [10] hb hn)] ?_)
 refine .ret ⟨.inr rfl,Out.pP Tryz.results216 ?_⟩;rfl
attribute [local go_sem] af_ ah_ in
theorem so_ (l:List Str) (hl:l.length<1099511627776) (hb:(bt_ l).length<1099511627776):ACall En 118 [.sl false (ai_ l)] [] [.s (bt_ l)] []:=by
 refine aa_ [] Tryz.func118 Tryz.ntmps118 fun C=>?_
 refine .seq (.rg [] ?_)
 refine .seq (.rg [] ?_)
 refine .seq (.seq (.rg [] ?_))
 refine .block (.loopK (fun k:Nat=>⟨[.sl false (ai_ l),.no,.no,.s (bt_ (l.take k)),.i .i64 k,.no,.no,.no,.no,.no,.no,.no,.no,.no,.no,.no,.no,.no,.no,.no,.no,.no],ae_ [],us []⟩) (fun k:Nat=>k≤l.length) (fun k:Nat=>l.length - k) (0) ?_ ?_ (fun k hI=>?_))
 ·simp
 ·refine Can.wh ?_;simp[qp_]
 refine .seq (.seq (.rg [] ?_))
 refine .cB (fun h8=>?_) fun h8=>?_
 ·refine .skip (.seq (.block (.seqJ (fun q:Str=>⟨[.sl false (ai_ l),.no,.no,.s q,.i .i64 k,.no,.no,.no,.no,.no,.no,.no,.no,.no,.no,.no,.no,.no,.no,.no,.no,.no],ae_ [],us []⟩) (fun q:Str=>q=if 0<k then bt_ (l.take k)++[10]else []) ?_ (fun q hJ=>?_))))
  ·refine .seq (.rg [] ?_)
   refine .cB (fun h12=>?_) fun h12=>?_
   ·refine .rgo [] ?_ ?_
    ·have q:=aur_ (l:=l) k;simp;omega
    refine Exists.intro (bt_ (l.take k)++[10]) ⟨?_,?_⟩
    ·simp at h12;simp[h12]
    refine Can.wh ?_;trivial
   refine .skip ?_
   refine⟨[],?_,?_⟩
   ·simp at h12;simp[h12]
   refine Can.wh ?_;(simp at h12;subst h12;simp[qp_])
  refine .rgo [] ?_ ?_ (h:=by simp only[go_sem,seval,an_ (show k<l.length by simpa using h8)];rfl)
  ·have q1:=aur_ (l:=l) (k+1);rw[amk_ (by simpa using h8),←hJ,List.length_append]at q1;refine⟨⟨by omega,by simpa using h8⟩,by omega⟩
  refine .rg [] ?_
  refine⟨k+1,?_,?_,?_⟩
  ·simp at h8;omega
  ·simp at h8;omega
  refine Can.wh ?_;rw[ac_ (by simp at h8;omega) (by simp at h8;omega)];refine⟨?_,by simp⟩;first|(rw[hJ,amk_ (by simpa using h8)];done)
 refine .exit (.seq (.rg [] ?_))
 refine .ret ⟨.inr rfl,Out.pP Tryz.results118 ?_⟩;simp at h8;rw[List.take_of_length_le h8]
def ve_ (l:List Sl):Str:=if pok l then bt_ (l.map emT)else []
theorem a02_ {s:Sl} (h:sok s=true):(emT s).length≤120:=by
 unfold emT;rw[if_pos h];exact(kd_ (tq_ h)).1
theorem a1e_ (s:Sl) (h:sok s=true) (hs:d6_ s=true):ACall En 74 [.ag (sC s)] [] [.s (emT s),.sl false (inR (emF s))] []:=by
 have:=(a1r_ s (de_ h) hs).frz1 (rs':=[.s (emT s),.sl false (inR (emF s))]) (by simp[er_,frz,a2_,List.take_of_length_le,emT,emF,h])
 exact this
end
section
def spl:Str→List Str
 |[]=>[[]]
 |c::l=>if c=10 then []::spl l else match spl l with
  |[]=>[[c]]
  |w::r=>(c::w)::r
theorem ack_:∀l:Str,spl l≠[]
 |[]=>by simp[spl]
 |c::l=>by
  unfold spl
  split
  ·simp
  split<;>simp
theorem aqj_ (l:Str):spl (10::l)=[]::spl l:=by simp[spl]
theorem v3_ {c:UInt8} (h:c≠10) {l:Str} {w:Str} {r:List Str} (hl:spl l=w::r):spl (c::l)=(c::w)::r:=by
 rw[spl,if_neg h,hl]
theorem mo_:∀ {w:Str},(10:UInt8) ∉ w→spl w=[w]
 |[],_=>rfl
 |c::w,h=>by
  rw[v3_ (by rintro rfl;simp at h) (mo_ (w:=w) fun q=>h (by simp[q]))]
theorem qm_:∀ {w:Str},(10:UInt8) ∉ w→∀l,spl (w++10::l)=w::spl l
 |[],_,l=>aqj_ l
 |c::w,h,l=>by
  rw[List.cons_append,v3_ (by rintro rfl;simp at h) (qm_ (w:=w) (fun q=>h (by simp[q])) l)]
theorem xx_:∀ {ls:List Str},ls≠[]→(∀w∈ls,(10:UInt8) ∉ w)→spl (bt_ ls)=ls
 |[],h,_=>absurd rfl h
 |[s],_,h=>by rw[qt_,mo_ (h s (by simp))]
 |s::x::l,_,h=>by
  rw[m4_,qm_ (h s (by simp)),xx_ (ls:=x::l) (by simp) fun w hw=>h w (by simp at hw ⊢;exact .inr hw)]
theorem tz_:∀l:Str,(spl l).length≤l.length+1
 |[]=>by simp[spl]
 |c::l=>by
  have:=tz_ l
  unfold spl
  split
  ·simp;omega
  split
  ·simp
  rename_i he;rw[he]at this;simp at this ⊢;omega
theorem si_:∀l:Str,∀w∈spl l,w.length≤l.length
 |[],w,h=>by simp[spl]at h;subst h;simp
 |c::l,w,h=>by
  have ih:=si_ l
  unfold spl at h
  split at h
  ·simp only[List.mem_cons]at h
   rcases h with rfl|h
   ·simp
   have:=ih w h;simp;omega
  split at h
  ·simp only[List.mem_cons,List.not_mem_nil,or_false]at h
   subst h;simp
  rename_i u r he
  simp only[List.mem_cons]at h
  rcases h with rfl|h
  ·have:=ih u (by rw[he];simp);simp;omega
  have:=ih w (by rw[he];simp[h]);simp;omega
theorem ze_:∀ {s:Str},Lib.indexByte s 10 = -1→(10:UInt8) ∉ s
 |[],_=>by simp
 |b::l,h=>by
  have hg:=n8_ l 10
  unfold Lib.indexByte at h
  split at h
  ·exact absurd h (by decide)
  rename_i hb
  split at h
  ·rename_i h2
   have:=ze_ (s:=l) (by simpa using h2)
   simp only[List.mem_cons,not_or]
   exact⟨fun e=>hb (by simp[e]),this⟩
  omega
theorem agg_:∀ {s:Str} {i:Nat},Lib.indexByte s 10=i→(10:UInt8) ∉ s.take i∧s=s.take i++10::s.drop (i+1)
 |[],i,h=>by simp[Lib.indexByte]at h
 |b::l,i,h=>by
  have hg:=n8_ l 10
  unfold Lib.indexByte at h
  split at h
  ·rename_i hb
   obtain rfl:i=0:=by omega
   have:b=10:=by simpa using hb
   subst this;simp
  rename_i hb
  split at h
  ·omega
  rename_i h2
  have h2':Lib.indexByte l 10≠ -1:=by simpa using h2
  obtain⟨j,hj⟩:∃j:Nat,Lib.indexByte l 10=j:=⟨(Lib.indexByte l 10).toNat,by omega⟩
  obtain rfl:i=j+1:=by omega
  obtain⟨q1,q2⟩:=agg_ (s:=l) hj
  refine⟨?_,?_⟩
  ·simp only[List.take_succ_cons,List.mem_cons,not_or]
   exact⟨fun e=>hb (by simp[e]),q1⟩
  simp only[List.take_succ_cons,List.drop_succ_cons,List.cons_append]
  rw[←q2]
theorem yx_:∀(n:Nat) (s:Str),s.length≤n→Lib.splitK [10] 0 (Lib.count s [10]) s=spl s
 |0,s,h=>by
  obtain rfl:s=[]:=List.eq_nil_of_length_eq_zero (by omega)
  rfl
 |n+1,s,h=>by
  have hg:=Lib.index_ge s [10]
  have ho:Lib.index s [10]=Lib.indexByte s 10:=Lib.index_one s 10
  by_cases hm:Lib.index s [10] = -1
  ·rw[Lib.count_miss hm,mo_ (ze_ (ho ▸ hm))];rfl
  obtain⟨i,hi⟩:∃i:Nat,Lib.index s [10]=i:=⟨(Lib.index s [10]).toNat,by omega⟩
  obtain⟨q1,q2⟩:=agg_ (ho ▸ hi)
  rw[Lib.count_hit (by simp) hi,Nat.add_comm 1,Lib.splitK,if_neg (by simpa using hm),hi]
  simp only[Int.toNat_natCast,Nat.add_zero,List.length_cons,List.length_nil,Nat.zero_add]
  have hl:(s.drop (i+1)).length≤n:=by
   have:=congrArg List.length q2
   rw[List.length_append,List.length_cons]at this
   omega
  rw[yx_ n (s.drop (i+1)) hl]
  conv=>rhs;rw[q2]
  rw[qm_ q1]
def gy_:Str→Int→Bool
 |[],_=>true
 |c::l,w=>if c=10 then gy_ l 0 else decide (32≤c.toNat)&&decide (c.toNat≤126)&&decide (w+1≤120)&&gy_ l (w+1)
def tOk (s:Str):Bool:=gy_ s 0&&decide (s.length≤4000)
def prt (c:UInt8):Bool:=decide (32≤c.toNat)&&decide (c.toNat≤126)
theorem aca_ {c:UInt8} (h:prt c=true):c≠10:=by rintro rfl;simp[prt]at h
theorem ry_:∀ {l:Str} {w:Int},l.all prt=true→w+l.length≤120→gy_ l w=true
 |[],_,_,_=>rfl
 |c::l,w,h,hw=>by
  simp only[List.all_cons,Bool.and_eq_true]at h
  simp only[List.length_cons]at hw
  have hp:=h.1
  simp only[prt,Bool.and_eq_true]at hp
  rw[gy_,if_neg (aca_ h.1),hp.1,hp.2,ry_ h.2 (by omega)]
  simp;omega
theorem af7_:∀ {l:Str} {w:Int} {r:Str},l.all prt=true→w+l.length≤120→gy_ (l++10::r) w=gy_ r 0
 |[],_,r,_,_=>by simp[gy_]
 |c::l,w,r,h,hw=>by
  simp only[List.all_cons,Bool.and_eq_true]at h
  simp only[List.length_cons]at hw
  have hp:=h.1
  simp only[prt,Bool.and_eq_true]at hp
  rw[List.cons_append,gy_,if_neg (aca_ h.1),hp.1,hp.2,af7_ h.2 (by omega)]
  have:decide (w+1≤120)=true:=by simp;omega
  rw[this];rfl
def lnOk (l:Str):Prop:=l.all prt=true∧l.length≤120
theorem ac0_ {l:Str} (h:lnOk l):(10:UInt8) ∉ l:=fun q=>aca_ (List.all_eq_true.1 h.1 10 q) rfl
theorem wf_:∀ {ls:List Str},(∀w∈ls,lnOk w)→gy_ (bt_ ls) 0=true
 |[],_=>by rw[qp_];rfl
 |[s],h=>by rw[qt_];exact ry_ (h s (by simp)).1 (by have:=(h s (by simp)).2;omega)
 |s::x::l,h=>by
  rw[m4_,af7_ (h s (by simp)).1 (by have:=(h s (by simp)).2;omega)]
  exact wf_ (ls:=x::l) fun w hw=>h w (by simp at hw ⊢;exact .inr hw)
def bo_ (s:Str):List Str:=if tOk s then spl s else []
theorem ly_ {ls:List Str} (h:∀w∈ls,lnOk w) (hn:ls≠[]) (h16:ls.length≤16):bo_ (bt_ ls)=ls:=by
 have h1:=wf_ h
 have h2:=aep_ (l:=ls) (k:=120) fun s hs=>(h s hs).2
 unfold bo_
 rw[if_pos (by simp[tOk,h1];omega),xx_ hn fun w hw=>ac0_ (h w hw)]
theorem e5_ (s:Str):(bo_ s).length≤4001:=by
 unfold bo_
 split
 ·rename_i h
  have:=tz_ s
  simp only[tOk,Bool.and_eq_true,decide_eq_true_eq]at h
  omega
 simp
theorem hb_ (s:Str):∀w∈bo_ s,w.length≤4000:=by
 unfold bo_
 split
 ·rename_i h
  intro w hw
  have:=si_ s w hw
  simp only[tOk,Bool.and_eq_true,decide_eq_true_eq]at h
  omega
 simp
theorem ao9_ {c:UInt8} (h:cd_ c=true):prt c=true:=by
 simp only[cd_,prt,Bool.and_eq_true,decide_eq_true_eq]at *;omega
theorem aov_ {c:UInt8} (h:b1_ c=true):prt c=true:=by
 simp only[b1_,prt,Bool.and_eq_true,decide_eq_true_eq]at *;omega
theorem ati_ {s:Str} (h:fm_ s=true):s.all prt=true:=by
 simp only[fm_,Bool.and_eq_true,beq_iff_eq]at h
 obtain⟨h1,h2⟩:=h
 match s,h1,h2 with
 |[c],_,h2=>
  have:c∈marks:=by simpa using h2
  simp only[marks,List.mem_cons,List.not_mem_nil,or_false]at this
  rcases this with rfl|rfl|rfl|rfl|rfl|rfl|rfl|rfl<;>decide
theorem yd_ {w:Str} (h:d8_ w):w.all prt=true:=by
 unfold d8_ cv_ at h
 split at h
 ·rename_i hw
  simp only[e4_,Bool.and_eq_true]at hw
  exact List.all_eq_true.2 fun c hc=>ao9_ (List.all_eq_true.1 hw.1.1 c hc)
 split at h
 ·rename_i hw
  obtain⟨n,_,rfl⟩:=do_.1 hw
  exact List.all_eq_true.2 fun c hc=>aov_ ((nd_ c).2 (c6_ n c hc))
 split at h
 ·rename_i hw;exact ati_ hw
 exact absurd rfl h
theorem adn_:∀ {l:List Str},(∀w∈l,d8_ w)→(ap_ l).all prt=true
 |[],_=>rfl
 |[s],h=>by rw[e6_];exact yd_ (h s (by simp))
 |s::x::l,h=>by
  rw[ef_,List.all_append,List.all_cons,yd_ (h s (by simp)),adn_ (l:=x::l) fun w hw=>h w (by simp at hw ⊢;exact .inr hw)]
  rfl
theorem w4_ {b:Bl} (h:bok b=true):lnOk (jw_ b):=⟨adn_ (aeg_ h),(kd_ h).1⟩
end
section
def vg_ (n:Int):Int:=max (-1000000) (min 1000000 n)
def j9_ (l:List Str):Nat→Str→Int
 |0,_=> -1
 |k+1,s=>if l.getD k []=s then(k:Int)else j9_ l k s
def fj_ (l:List Str) (s:Str):Int:=j9_ l l.length s
theorem ahi_ (l:List Str) (s:Str):∀k, -1≤j9_ l k s∧j9_ l k s<k
 |0=>by simp[j9_]
 |k+1=>by
  have:=ahi_ l s k
  simp only[j9_];split<;>omega
theorem py_ (l:List Str) (s:Str) : -1≤fj_ l s∧fj_ l s<l.length:=ahi_ l s l.length
def twI (s:Str) (a b:Int):Int:=if s=[43]then vg_ (a+b)else if s=[45]then vg_ (a - b)else if s=[42]then vg_ (a * b)else if a<b then 1 else 0
def pp_ (s:Str) (x y:Int × Bool):Int × Bool:=if x.2&&y.2 then(twI s x.1 y.1,true)else(0,false)
mutual
def rk:E→List Str→List Int→Int × Bool
 |.mk k n s kids,N,M=>
  if k=1 then(n,true)
  else if k=2 then(if fj_ N s<0 then(0,false)else(vg_ (M.getD (fj_ N s).toNat 0),true))
  else if k=4 then rkA kids N M
  else pp_ s (rkA kids N M) (rkB kids N M)
def rkA:List E→List Str→List Int→Int × Bool
 |[],_,_=>(0,false)
 |e::_,N,M=>rk e N M
def rkB:List E→List Str→List Int→Int × Bool
 |[],_,_=>(0,false)
 |_::r,N,M=>rkA r N M
end
theorem aig_ {e:E} (h:e.kind=1) (N:List Str) (M:List Int):rk e N M=(e.n,true):=by
 cases e;simp only[E.kind]at h;subst h;simp[rk,E.n]
theorem abk_ {e:E} (h:e.kind=2) (N:List Str) (M:List Int):rk e N M=(if fj_ N e.s<0 then(0,false)else(vg_ (M.getD (fj_ N e.s).toNat 0),true)):=by
 cases e;simp only[E.kind]at h;subst h;simp[rk,E.s]
theorem amb_ {e:E} (h:e.kind=4) (hk:e.kids.length=1) (N:List Str) (M:List Int):rk e N M=rk (e.kids.getD 0 E0) N M:=by
 cases e with
 |mk k n s kids=>
  simp only[E.kind,E.kids]at h hk ⊢
  subst h
  match kids,hk with
  |[x],_=>simp[rk,rkA]
theorem vx_ {e:E} (h:e.kind=3) (hk:e.kids.length=2) (N:List Str) (M:List Int):rk e N M=pp_ e.s (rk (e.kids.getD 0 E0) N M) (rk (e.kids.getD 1 E0) N M):=by
 cases e with
 |mk k n s kids=>
  simp only[E.kind,E.kids,E.s]at h hk ⊢
  subst h
  match kids,hk with
  |[x,y],_=>simp[rk,rkA,rkB]
theorem ala_ (n:Int) : -1000000≤vg_ n∧vg_ n≤1000000:=by unfold vg_;omega
theorem a2j_ (s:Str) (a b:Int) : -1000000≤twI s a b∧twI s a b≤1000000:=by
 unfold twI
 have:=ala_
 split
 ·exact this _
 split
 ·exact this _
 split
 ·exact this _
 split<;>omega
theorem agy_ (d:Nat):∀(e:E) (N:List Str) (M:List Int),form e d=true→ -1000000≤(rk e N M).1∧(rk e N M).1≤1000000:=by
 induction d with
 |zero=>intro e N M h;have:=(aj_ h).1;omega
 |succ d ih=>
  intro e N M h
  have e1:((d+1:Nat):Int) - 1=(d:Int):=by omega
  rcases (aj_ h).2 with⟨k1,h1,h2,h3,h4⟩|⟨k1,_⟩|⟨k1,h1,h2,h3,h4,h5⟩|⟨k1,h1,h2,h3,h4⟩
  ·rw[aig_ k1];dsimp only;omega
  ·rw[abk_ k1];split
   ·exact⟨by decide,by decide⟩
   exact ala_ _
  ·rw[vx_ k1 h3];unfold pp_;split
   ·exact a2j_ _ _ _
   exact⟨by decide,by decide⟩
  rw[amb_ k1 h3];exact ih _ _ _ (by rw[e1]at h4;exact h4)
theorem ap5_ {e:E} (h:eok e=true) (N:List Str) (M:List Int) : -1000000≤(rk e N M).1∧(rk e N M).1≤1000000:=agy_ 5 e N M (ao_ h)
def c2_ (b:Bl) (N:List Str) (M:List Int):Int × Int × Bool:=
 if (rk b.expr N M).2=true∧b.kind=3 then((rk b.expr N M).1,(rk b.thn N M).1,(rk b.thn N M).2)else((rk b.expr N M).1,(rk b.expr N M).1,(rk b.expr N M).2)
structure Rs where
 names:List Str
 nums:List Int
 said:List Int
 ok:Bool
def d0_ (r:Rs) (b:Bl):Rs:=
 if r.ok=false then r
 else if b.kind=0 then r
 else if (c2_ b r.names r.nums).2.2=false then { r with ok:=false }
 else if b.kind=1 then { r with names:=r.names++[b.name],nums:=r.nums++[(c2_ b r.names r.nums).1] }
 else if b.kind=2∨(c2_ b r.names r.nums).1≠0 then { r with said:=r.said++[(c2_ b r.names r.nums).2.1] }
 else r
def ar_ (l:List Bl):Rs:=l.foldl d0_ ⟨[],[],[],true⟩
def lok (l:List Bl):Bool:=decide (1≤l.length)&&decide (l.length≤16)&&l.all bok
def jd_ (l:List Bl):List Int × Bool:=if lok l then((ar_ l).said,(ar_ l).ok)else([],false)
theorem apn_ {r:Rs} (h:r.ok=false) (b:Bl):d0_ r b=r:=by simp[d0_,h]
theorem agh_:∀(l:List Bl) (r:Rs),r.ok=false→l.foldl d0_ r=r
 |[],_,_=>rfl
 |b::l,r,h=>by rw[List.foldl_cons,apn_ h];exact agh_ l r h
theorem avd_ {r:Rs} (b:Bl) (h:r.names.length=r.nums.length):(d0_ r b).names.length=(d0_ r b).nums.length∧(d0_ r b).names.length≤r.names.length+1∧(d0_ r b).said.length≤r.said.length+1:=by
 unfold d0_
 split
 ·exact⟨h,by omega,by omega⟩
 split
 ·exact⟨h,by omega,by omega⟩
 split
 ·exact⟨h,by dsimp only;omega,by dsimp only;omega⟩
 split
 ·simp[h]
 split
 ·simp[h]
 exact⟨h,by omega,by omega⟩
theorem g9_ {l:List Bl} {k:Nat} (h:k<l.length):ar_ (l.take (k+1))=d0_ (ar_ (l.take k)) (l.getD k B0):=by
 unfold ar_
 rw[List.take_add_one,List.getElem?_eq_getElem h,List.foldl_append,List.getD_eq_getElem?_getD,List.getElem?_eq_getElem h];rfl
theorem ph_ (l:List Bl):∀k,k≤l.length→(ar_ (l.take k)).names.length=(ar_ (l.take k)).nums.length∧(ar_ (l.take k)).names.length≤k∧(ar_ (l.take k)).said.length≤k
 |0,_=>by simp[ar_]
 |k+1,h=>by
  have:=ph_ l k (by omega)
  have h2:=avd_ (l.getD k B0) this.1
  rw[g9_ (by omega)]
  omega
theorem aaa_ {l:List Bl} {k:Nat} (hk:k≤l.length) (h:(ar_ (l.take k)).ok=false):ar_ l=ar_ (l.take k):=by
 conv=>lhs;rw[←List.take_append_drop k l]
 unfold ar_ at h ⊢
 rw[List.foldl_append]
 exact agh_ _ _ h
end
section
open Go.RowKit Go.Shelf
attribute [local go_sem] Oper.semAt_some
def gq_ {α:Type} (f:Nat→α) (n m:Nat):List α:=(((List.range n).drop m).reverse).map f
theorem mv_ {α:Type} (f:Nat→α) (n:Nat):gq_ f n n=[]:=by simp[gq_]
theorem k4_ {α:Type} (f:Nat→α) {n j:Nat} (h:j<n):gq_ f n j=gq_ f n (j+1)++[f j]:=by
 unfold gq_
 rw[List.drop_eq_getElem_cons (by simpa using h)]
 simp
theorem xt_ {α:Type} (f:Nat→α) (n m:Nat):(gq_ f n m).length=n - m:=by simp[gq_]
theorem m9_ {α:Type} (f:Nat→α) {n m j:Nat} (h1:m≤j) (h2:j<n):f j∈gq_ f n m:=by
 simp only[gq_,List.mem_map,List.mem_reverse]
 refine⟨j,List.mem_iff_getElem?.2 ⟨j - m,?_⟩,rfl⟩
 rw[List.getElem?_drop,List.getElem?_range (by omega)];congr 1;omega
abbrev nx_ (s:Str):Value:=.string ⟨s.toArray⟩
abbrev bkE (x:Int × Str):Array Value:=#[.int .i64 x.1,nx_ x.2]
abbrev bkF (l:List Str) (j:Nat):Int × Str:=((j:Int),l.getD j [])
set_option maxRecDepth 100000 in
set_option maxHeartbeats 4000000 in
theorem aqz_ (F:Fence) (n:Nat) (h7:F.fn 301) (hro:F.round=none) (hn:1≤n) (l Bs n₀ b off cap:Nat) (zs:List Str) (hreach:zs.length * 16≤140737488351232) (hb:b<n₀) (J Jx:List (Int × Str)→World→Prop)
  (hY:∀pre x W,J pre W→pre.length<zs.length→YieldAt F (n - 1) Tryz.prog l (bkE x) W fun e W'=>
   (e = .returned (.bool true)∧J (pre++[x]) W'∧Below n₀ W W')∨(e = .returned (.bool false)∧Jx (pre++[x]) W'))
  (W:World) (hBn:Bs<n₀) (hBs:W.cell? ⟨Bs,0,none⟩=some (.slice (some ⟨b,off,none⟩) zs.length cap)) (hc:∀j,j<zs.length→W.cell? ⟨b,off+j,none⟩=some (nx_ (zs.getD j []))) (h0:J [] W) :
  CallsIn F n Tryz.prog 301 #[.func (.yield l) #[] #[],.pointer (some ⟨Bs,0,none⟩)] W fun e W'=>(∃v,e = .returned v)∧
   ((∃ys,ys=gq_ (bkF zs) zs.length 0∧J ys W')∨(∃pre,(∃k,k≤zs.length∧pre=gq_ (bkF zs) zs.length k)∧Jx pre W')):=by
 refine callsIn_of_wp Tryz.func301 rfl h7 ?_ hro
 simp only[Tryz.ntmps301,List.size_toArray,List.length_cons,List.length_nil,Nat.reduceAdd,Nat.reduceSub,Array.replicate_succ,Array.replicate_zero,List.push_toArray,List.append_toArray,List.nil_append,List.cons_append]
 gi_wp2
 gi_loopw [3] (fun i wr=>∃m:Nat,m≤zs.length∧i = .int .i64 ((m:Int) - 1)∧J (gq_ (bkF zs) zs.length m) wr∧Below n₀ W wr)
  (fun i _=>(intOf i+1).toNat)
 case atStart=>exact⟨zs.length,Nat.le_refl _,by first|rfl|simp[ac_ (show -9223372036854775808≤(zs.length:Int) - 1 by omega) (by omega)],by rw[mv_];exact h0,Below.refl _ _⟩
 case round=>
  obtain⟨m,hk,rfl,hJs,hnx⟩:=hrel
  have hBx:wr.cell? ⟨Bs,0,none⟩=some (.slice (some ⟨b,off,none⟩) zs.length cap):=(hnx.cell (p:=⟨Bs,0,none⟩) hBn).trans hBs
  cases m with
  |zero=>
   gi_wp2
   go_end0
   exact⟨⟨_,rfl⟩,.inl ⟨_,rfl,hJs⟩⟩
  |succ j=>
   have hi:(((j+1:Nat):Int) - 1)=(j:Int):=by omega
   rw[hi]
   have hcx:wr.cell? ⟨b,off+j,none⟩=some (nx_ (zs.getD j [])):=(hnx.cell (p:=⟨b,off+j,none⟩) hb).trans (hc j (by omega))
   have hjl:j<zs.length:=by omega
   have hst:=k4_ (bkF zs) hjl
   simp only[bkF]at hst
   generalize zs.getD j []=v at hcx hst
   obtain⟨fn,tmps,assign,body,hy,hR⟩:=hY _ ((j:Int),v) wr hJs (by rw[xt_];omega)
   dsimp only[bkE]at hy
   gi_wp2
   refine hR.mono ?_
   rintro e W3 (⟨rfl,hJ3,hk3⟩|⟨rfl,hJx3⟩)
   ·gi_wp2
    go_roundw
    case rel=>exact⟨j,by omega,by simp,by rw[hst];exact hJ3,hnx.trans hk3⟩
    case measure=>simp[intOf]<;>omega
   gi_wp2
   refine bodyPost_ret (results_none rfl _ _ _) rfl ?_
   exact⟨⟨_,rfl⟩,.inr ⟨_,⟨j,by omega,hst.symm⟩,hJx3⟩⟩
theorem ay1_ (F:Fence) (n:Nat) (h5:F.fn 275) (hro:F.round=none) (a:Option Addr) (len cap:Nat) (w:World) :
  CallsIn F n Tryz.prog 275 #[.slice a len cap] w fun e w'=>e = .returned (.func (.func 301) #[] #[.pointer (some ⟨w.heap.size,0,none⟩)])∧w'=w.alloc (.cells #[.slice a len cap] 29):=by
 refine callsIn_of_wp Tryz.func275 rfl h5 ?_ hro
 simp only[Tryz.ntmps275,List.size_toArray,List.length_cons,List.length_nil,Nat.reduceAdd,Nat.reduceSub,Array.replicate_succ,Array.replicate_zero,List.push_toArray,List.append_toArray,List.nil_append,List.cons_append]
 gi_wp2
 go_ret
 exact⟨rfl,rfl⟩
set_option maxRecDepth 100000 in
set_option maxHeartbeats 1000000 in
theorem aa1_ (F:Fence) (n:Nat) (h7:F.fn 301) (hro:F.round=none) (l Bs:Nat) (a:Option Addr) (cap:Nat) (J:List (Int × Str)→World→Prop) (W:World) (hBs:W.cell? ⟨Bs,0,none⟩=some (.slice a 0 cap)) (h0:J [] W) :
  CallsIn F n Tryz.prog 301 #[.func (.yield l) #[] #[],.pointer (some ⟨Bs,0,none⟩)] W fun e W'=>(∃v,e = .returned v)∧J [] W':=by
 refine callsIn_of_wp Tryz.func301 rfl h7 ?_ hro
 simp only[Tryz.ntmps301,List.size_toArray,List.length_cons,List.length_nil,Nat.reduceAdd,Nat.reduceSub,Array.replicate_succ,Array.replicate_zero,List.push_toArray,List.append_toArray,List.nil_append,List.cons_append]
 gi_wp2
 gi_loopw [3] (fun i wr=>i = .int .i64 (-1)∧J [] wr) (fun _ _=>0)
 case atStart=>exact⟨rfl,h0⟩
 case round=>
  obtain⟨rfl,hJs⟩:=hrel
  gi_wp2
  go_end0
  exact⟨⟨_,rfl⟩,hJs⟩
def StrsAt (n₀:Nat) (W:World) (sv:Value) (zs:List Str):Prop:=
 ∃A cap,sv = .slice A zs.length cap∧(zs≠[]→∃b off,A=some ⟨b,off,none⟩∧b<n₀∧∀j,j<zs.length→W.cell? ⟨b,off+j,none⟩=some (nx_ (zs.getD j [])))
theorem StrsAt.below {n₀:Nat} {A B:World} (h:Below n₀ A B) {sv:Value} {zs:List Str}:StrsAt n₀ A sv zs→StrsAt n₀ B sv zs
 |⟨a,cap,e,k⟩=>⟨a,cap,e,fun hne=>let ⟨b,off,e2,hb,hc⟩:=k hne;⟨b,off,e2,hb,fun j hj=>(h.cell (p:=⟨b,off+j,none⟩) hb).trans (hc j hj)⟩⟩
theorem aiu_ (F:Fence) (n:Nat) (h7:F.fn 301) (hro:F.round=none) (hn:1≤n) (Bs n₀:Nat) (sv:Value) (zs:List Str) (hreach:zs.length * 16≤140737488351232) (w:World) (hBs:Bs<w.heap.size) (hn₀:n₀≤w.heap.size) (hBn:Bs<n₀)
  (hc:w.cell? ⟨Bs,0,none⟩=some sv) (hI:StrsAt n₀ w sv zs) :
  SeqStopsK F n Tryz.prog 301 #[.pointer (some ⟨Bs,0,none⟩)] bkE (Below n₀) (fun ys=>ys=gq_ (bkF zs) zs.length 0) (fun pre=>∃k,k≤zs.length∧pre=gq_ (bkF zs) zs.length k) zs.length w:=fun l J Jx W hW _ _ hY h0=>by
 have hc':=(hW.cell (p:=⟨Bs,0,none⟩) hBs).trans hc
 obtain⟨A,cap,rfl,hne⟩:=hI.below (hW.mono hn₀)
 by_cases hz:zs=[]
 ·subst hz
  exact(aa1_ F n h7 hro l Bs A cap J W hc' h0).mono fun e W' ⟨he,hj⟩=>⟨he,.inl ⟨_,rfl,hj⟩⟩
 obtain⟨b,off,rfl,hb,hcs⟩:=hne hz
 exact aqz_ F n h7 hro hn l Bs n₀ b off cap zs hreach hb J Jx hY W hBn hc' hcs h0
theorem aab_ {l:List Str} {s:Str} {m:Nat} (hm:l.getD m []=s):∀n,m<n→(∀j,m<j→j<n→l.getD j []≠s)→j9_ l n s=m
 |0,h,_=>by omega
 |n+1,h,hh=>by
  simp only[j9_]
  by_cases e:m=n
  ·subst e;rw[if_pos hm]
  rw[if_neg (hh n (by omega) (by omega))]
  exact aab_ hm n (by omega) fun j h1 h2=>hh j h1 (by omega)
theorem we_ {l:List Str} {s:Str}:∀n,(∀j,j<n→l.getD j []≠s)→j9_ l n s = -1
 |0,_=>rfl
 |n+1,h=>by
  simp only[j9_]
  rw[if_neg (h n (by omega))]
  exact we_ n fun j hj=>h j (by omega)
set_option maxRecDepth 100000 in
set_option maxHeartbeats 4000000 in
theorem ax3_ (F:Fence) (n:Nat) (h4:F.fn 227) (h6:F.fn 275) (h8:F.fn 301) (hro:F.round=none) (hn:3≤n) (a:Option Addr) (cap:Nat) (zs:List Str) (s:Str) (hreach:zs.length * 16≤140737488351232) (w:World) (hI:StrsAt w.heap.size w (.slice a zs.length cap) zs) :
  CallsIn F n Tryz.prog 227 #[.slice a zs.length cap,nx_ s] w fun e W'=>e = .returned (.int .i64 (fj_ zs s))∧Below w.heap.size w W':=by
 have h1:1≤n:=by omega
 refine callsIn_of_wp_marks Tryz.func227 rfl h4 ?_ hro
 simp only[Tryz.ntmps227,List.size_toArray,List.length_cons,List.length_nil,Nat.reduceAdd,Nat.reduceSub,Array.replicate_succ,Array.replicate_zero,List.push_toArray,List.append_toArray,List.nil_append,List.cons_append]
 gi_wp2_with (gi_at_call 275;refine(ay1_ F (n - 1) h6 hro _ _ _ _).mono ?_;rintro e w' ⟨rfl,rfl⟩)
 have bS:=Boxed.new w 9 (nx_ s)
 have bR:=Boxed.new (w.alloc (.cells #[nx_ s] 9)) 3 (.int .i64 0)
 rw[World.size_alloc]at bR
 have bN:=Boxed.new ((w.alloc (.cells #[nx_ s] 9)).alloc (.cells #[.int .i64 0] 3)) 29 (.slice a zs.length cap)
 rw[World.size_alloc,World.size_alloc]at bN
 have hB0:Below w.heap.size w (((w.alloc (.cells #[nx_ s] 9)).alloc (.cells #[.int .i64 0] 3)).alloc (.cells #[.slice a zs.length cap] 29)):=(((Below.refl _ w).alloc (Nat.le_refl _) _).alloc (by simp) _).alloc (by simp only[World.size_alloc];omega) _
 have hI3:StrsAt (w.heap.size+1+1+1) (((w.alloc (.cells #[nx_ s] 9)).alloc (.cells #[.int .i64 0] 3)).alloc (.cells #[.slice a zs.length cap] 29)) (.slice a zs.length cap) zs:=by
  obtain⟨A,c,e,k⟩:=hI.below hB0
  exact⟨A,c,e,fun hne=>let ⟨b,off,e2,hb,hc⟩:=k hne;⟨b,off,e2,by omega,hc⟩⟩
 refine wpIn_rangeFunc_ownG hro h1 (gf:=301) (lb:=#[.pointer (some ⟨w.heap.size+1+1,0,none⟩)]) rfl h8 (enters_of Tryz.func301 (by kernel_rfl) rfl)
  (aiu_ F (n - 1) h8 hro (by omega) (w.heap.size+1+1) (w.heap.size+1+1+1) _ zs hreach _ (by simp) (by simp) (by omega) bN.cell hI3) belowK_t (belowK_b (by simp)) (Below.refl _ _) (fun _=>rfl)
  (fun pre W=>((∀p∈pre,p.2≠s)∧(W.cell? ⟨w.heap.size,0,none⟩=some (nx_ s)∧W.frozen? ⟨w.heap.size,0,none⟩=false)∧W.cell? ⟨w.heap.size+1,0,none⟩=some (.int .i64 0)∧W.frozen? ⟨w.heap.size+1,0,none⟩=false)∧Below w.heap.size w W)
  (fun c pre W=>(c = .ret∧∃ini last,pre=ini++[last]∧(∀p∈ini,p.2≠s)∧last.2=s∧W.cell? ⟨w.heap.size+1,0,none⟩=some (.int .i64 last.1))∧Below w.heap.size w W)
  (OwnFrom.and (Own.from (fun s A B row hs hg hr=>⟨hs.1,⟨cell_kept hs.2.1.1 hg hr,(frozen_kept hs.2.1.1 hg hr).trans hs.2.1.2⟩,cell_kept hs.2.2.1 hg hr,(frozen_kept hs.2.2.1 hg hr).trans hs.2.2.2⟩) _) (ownFrom_below (Nat.le_refl _) (by simp;omega)))
  (fun c=>OwnFrom.and (Own.from (fun s A B row hs hg hr=>by obtain⟨hc,ini,last,e1,e2,e3,e4⟩:=hs;exact⟨hc,ini,last,e1,e2,e3,cell_kept e4 hg hr⟩) _) (ownFrom_below (Nat.le_refl _) (by simp;omega)))
  ⟨⟨by simp,⟨((bS.alloc _).alloc _).cell,((bS.alloc _).alloc _).frozen⟩,(bR.alloc _).cell,(bR.alloc _).frozen⟩,hB0⟩
  (fun x=>{ tmps:=#[.slice a zs.length cap,nx_ s,undef,.pointer (some ⟨w.heap.size,0,none⟩),.pointer (some ⟨w.heap.size+1,0,none⟩),.int .i64 x.1,nx_ x.2,.slice a zs.length cap,.func (.func 301) #[] #[.pointer (some ⟨w.heap.size+1+1,0,none⟩)],.int .i64 x.1,nx_ x.2,undef,undef,undef,undef],defers:=[] }) ?assign ?body ?done ?stop
 case assign=>
  intro l x W K hK
  gi_wp2
  exact hK
 case body=>
  rintro l pre ⟨x1,x2⟩ W ⟨⟨hp,⟨hcs,hfs⟩,hcr,hfr⟩,hB⟩ _
  gi_wp2
  ·have hx:(x2==s)=true:=by assumption
   exact⟨(KeepsOthers.setCell _ _ _).from _,⟨rfl,pre,(x1,x2),rfl,hp,by simpa using hx,World.cell?_setCell_same' _ _ _ (by rw[hcr];rfl)⟩,hB.setCell (p:=⟨w.heap.size+1,0,none⟩) (by simp) _⟩
  have hx:(x2==s)=false:=by assumption
  exact⟨KeepsFrom.refl _ _,Below.refl _ _,⟨fun p hp'=>(List.mem_append.1 hp').elim (hp p) (fun e=>by simp at e;subst e;simpa using hx),⟨hcs,hfs⟩,hcr,hfr⟩,hB⟩
 case done=>
  rintro D ys W hD rfl ⟨⟨hne,_,hcr,hfr⟩,hB⟩ hK
  gi_wp2
  have hK':=(KeepsOthers.setCell W ⟨w.heap.size+1,0,none⟩ (.int .i64 (-1))).same D _ hK rfl
  refine⟨by simp,.inl ⟨_,_,rfl,run_takeDeferred hK',?_⟩⟩
  have hc5:=cell_kept (World.cell?_setCell_same' W ⟨w.heap.size+1,0,none⟩ (.int .i64 (-1)) (by rw[hcr];rfl)) (grownBy_putObj' _ D (.deferred none)) (fun r e=>by cases e;exact⟨_,hK',rfl⟩)
  refine⟨.int .i64 (-1),?_,?_,(hB.setCell (p:=⟨w.heap.size+1,0,none⟩) (by simp) _).trans (belowK_b (w:=w) (Nat.le_refl _) _ D _ _ (by simp at hD;omega) hK' rfl rfl)⟩
  ·simp[results,Tryz.f227,go_sem,hc5]
  rw[show fj_ zs s = -1 from we_ _ fun j hj=>hne (bkF zs j) (m9_ _ (Nat.zero_le _) hj)]
 case stop=>
  rintro D c pre W hD ⟨m,hk,rfl⟩ ⟨⟨rfl,ini,last,e1,e2,e3,hcr⟩,hB⟩ hK
  gi_wp2
  refine⟨by simp,.inl ⟨_,_,rfl,run_takeDeferred hK,?_⟩⟩
  have hc5:=cell_kept hcr (grownBy_putObj' _ D (.deferred none)) (fun r e=>by cases e;exact⟨_,hK,rfl⟩)
  have hml:m<zs.length:=by
   rcases Nat.lt_or_ge m zs.length with h|h
   ·exact h
   obtain rfl:m=zs.length:=by omega
   rw[mv_]at e1;simp at e1
  rw[k4_ _ hml]at e1
  obtain⟨rfl,e5⟩:=List.append_inj' e1 rfl
  obtain rfl:bkF zs m=last:=by simpa using e5
  refine⟨.int .i64 (m:Int),?_,?_,hB.trans (belowK_b (w:=w) (Nat.le_refl _) W D _ _ (by simp at hD;omega) hK rfl rfl)⟩
  ·simp[results,Tryz.f227,go_sem,hc5]
  rw[show fj_ zs s=m from aab_ e3 _ hml fun j h1 h2=>e2 (bkF zs j) (m9_ _ h1 h2)]
theorem ado_ {φ:Phi} {S:Nat→Prop} {w:World} {z:Nat}:∀ {l:List Str} {xs:List Value},VRr φ S w z (ai_ l) xs→xs=l.map nx_
 |[],xs,h=>by simpa[ai_,VRr]using h
 |s::l,xs,h=>by
  simp only[ai_,List.map_cons,VRr]at h
  obtain⟨ys,zs,rfl,_,h2,_,h3⟩:=h
  simp only[VRs,VR]at h2
  obtain⟨x,r,rfl,rfl,rfl⟩:=h2
  rw[ado_ h3];rfl
theorem arx_ (l:List Str) (s:Str) (hl:l.length≤1000000000000):ACall En 227 [.sl false (ai_ l),.s s] [] [.i .i64 (fj_ l s)] []:=by
 refine gb_ (fn:=Tryz.f227) Tryz.func227 rfl rfl fun S w xs hx _ _=>?_
 simp only[VRs,VR]at hx
 obtain⟨x,r,e1,⟨A,c,z,ys,rfl,h2,h3,h4,h5,h6⟩,y,q,rfl,rfl,rfl⟩:=hx
 obtain rfl:xs=#[.slice A (ai_ l).length c,.string ⟨s.toArray⟩]:=by apply Array.ext';simpa using e1
 rw[af_]at *
 have hv:=ado_ h6
 have hI:StrsAt w.heap.size w (.slice A l.length c) l:=by
  refine⟨A,c,rfl,fun hne=>?_⟩
  obtain⟨g,o,rfl,_,hg,hcell⟩:=h5 (by rw[hv];simpa using hne)
  refine⟨g,o,rfl,hg,fun j hj=>hcell j _ ?_⟩
  rw[hv,List.getElem?_map,List.getElem?_eq_getElem hj,List.getD_eq_getElem?_getD,List.getElem?_eq_getElem hj];rfl
 refine(callsIn_wide (n:=3)).1 ((ax3_ _ 3 trivial trivial trivial rfl (by omega) A c l s (by omega) w hI).mono ?_)
 rintro e w' ⟨rfl,h⟩
 exact⟨[_],rfl,h,.cons (by simp only[VR]) .nil⟩
end
end Go.Proofs.YthjccajoadjicaaGreatDoor
