/- Books: what the program's tell. Conditions: none. -/
import Derived.Test.YthjccajoadjicaaGreatDoorMo
set_option linter.unusedVariables false
set_option linter.unusedSimpArgs false
set_option maxRecDepth 100000
set_option maxHeartbeats 8000000
namespace Go.Proofs.YthjccajoadjicaaGreatDoor
section
theorem x4_ {l:List Pg} {f:Pg→Str} (h:bi_ l=true) (hf:∀p,okP p=true→(f p).length≤120):(bt_ (l.map f)).length≤3000∧(l.map f).length≤16:=by
 have h1:=(b5_ h).2.1
 have:=aep_ (l:=l.map f) (k:=120) fun s hs=>by
  obtain⟨p,hp,rfl⟩:=List.mem_map.1 hs
  exact hf p (gj_ h p hp)
 rw[List.length_map]at this
 have:=Nat.mul_le_mul_right 121 h1
 exact⟨by omega,by rw[List.length_map];exact h1⟩
attribute [local go_sem] bl_ a3_ cm_ ah_ al_ gm_ j2_ in
theorem acz_ (F:Nat) (f:Pg→Str) (hF:∀p:Pg,ACall En F [.ag (pgC p)] [] [.s (f p)] []) (hf:∀p,okP p=true→(f p).length≤120) (l:List Pg) (hs:∀p∈l,pgB p) (hl:l.length≤2000000):ACall En 149 [.sl false (pgR l),.fn (.func F) [] []] [] [.s (if bi_ l then bt_ (l.map f)else [])] []:=by
 have hp:∀k,bg_ (fi_ (ai_ (l.map f)) [.s []] k)=true:=fun k=>iq_ (ah_ _) rfl
 have hll:(ai_ (l.map f)).length=l.length:=by simp[ai_]
 have hf1:∀k,k<l.length→(l.map f).getD k []=f (l.getD k Pg0):=fun k h=>by simp[List.getD_eq_getElem?_getD,List.getElem?_eq_getElem h]
 refine aa_ [] Tryz.func149 Tryz.ntmps149 fun C=>?_
 refine .seq (.rg [] ?_ (h:=by simp only[go_sem,seval,hp,hll];rfl))
 refine .seq (.seq (.rg [ab_ (nj_ l hs hl)] ?_ (h:=by simp only[go_sem,seval,hp,hll];rfl)))
 refine .cB (fun h10=>?_) (fun h10=>?_) (hc:=by simp only[go_sem,seval,hp,hll];rfl) (hp:=by simp only[go_sem,seval,hp,hll])
 ·refine .seq (.rg [] ?_ (h:=by simp only[go_sem,seval,hp,hll];rfl))
  refine .ret ⟨.inr rfl,?_⟩
  exact Out.pl (by simp only[Tryz.results149];rfl) (by simp only[ba_,go_sem,seval,hp,hll]<;>(simp at h10;simp[h10])) (h1:=by simp only[a1_,bn_,go_sem,seval,hp,hll]<;>(split<;>rfl)) (h3:=by simp only[go_sem,seval,hp,hll])
 refine .skip (.seq (.rgo [] ?_ ?_ (h:=by simp only[go_sem,seval,hp,hll];rfl)))
 ·((and_intros<;>omega))
 refine .seq (.seq (.rg [] ?_ (h:=by simp only[go_sem,seval,hp,hll];rfl)))
 refine .block (.loopK (fun k:Nat=>⟨[.no,.fn (.func F) [] [],.no,.no,.no,.ow 23 1 0 l.length,.no,.no,.no,.no,.no,.no,.no,.no,.sl false (pgR l),.i .i64 l.length,.i .i64 k,.no,.no,.no,.no,.no,.no,.no,.no,.no,.no,.no,.no,.no],ae_ [(23,⟨9,1,fi_ (ai_ (l.map f)) [.s []] k⟩)],us [23]⟩) (fun k:Nat=>k≤l.length∧bi_ l=true) (fun k:Nat=>l.length - k) (0) ?_ ?_ (fun k hI=>?_))
 ·exact⟨by simp,by simpa using h10⟩
 ·exact Can.wl (h:=by simp only[go_sem,seval,hp,hll,av_,leV,as_,au_,V.inn,us,true_or,or_true]<;>(simp)) (hi:=by simp only[go_sem,seval,hp,hll,av_,leV,as_,au_,V.inn,us,true_or,or_true]) (hL:=by simp only[go_sem,seval,hp,hll,av_,leV,as_,au_,V.inn,us,true_or,or_true]<;>(simp[it_,hll]))
 refine .seq (.rg [] ?_ (h:=by simp only[go_sem,seval,hp,hll];rfl))
 refine .seq (.cB (fun h17=>?_) (fun h17=>?_) (hc:=by simp only[go_sem,seval,hp,hll];rfl) (hp:=by simp only[go_sem,seval,hp,hll]))
 ·refine .skip (.seq (.block (.seq (.rgo [] ?_ ?_ (h:=by simp only[go_sem,seval,hp,hll,c4_ (show k<l.length by simpa using h17)];rfl)))))
  ·((simp only[decide_eq_true_eq]at h17;and_intros<;>omega))
  refine .rgo [a0_ (k<l.length) (fun h=>hF (l.getD k Pg0))] ?_ ?_ (h:=by simp only[go_sem,seval,hp,hll];rfl)
  ·((simp only[decide_eq_true_eq]at h17;and_intros<;>omega))
  refine .rg [] ?_ (h:=by simp only[go_sem,seval,hp,hll];rfl)
  refine⟨k+1,?_,?_,?_⟩
  ·simp at h17;exact⟨by omega,hI.2⟩
  ·simp at h17;omega
  exact Can.wl (h:=by simp only[go_sem,seval,hp,hll,av_,leV,as_,au_,V.inn,us,true_or,or_true]<;>(rw[ac_ (by simp at h17;omega) (by simp at h17;omega)];simp)) (hi:=by simp only[go_sem,seval,hp,hll,av_,leV,as_,au_,V.inn,us,true_or,or_true]) (hL:=by simp only[go_sem,seval,hp,hll,av_,leV,as_,au_,V.inn,us,true_or,or_true]<;>((simp only[decide_eq_true_eq]at h17);rw[←jf_ (by rw[hll];omega),an_ (by rw[List.length_map];omega),hf1 _ (by omega)]))
 refine .exit (.seq (.rgo [ajg_ (bi_ l=true) (fun h=>ags_ (l.map f) (by have:=(x4_ h hf).1;omega) (by have:=(x4_ h hf).2;omega))] ?_ ?_ (h:=by simp only[go_sem,seval,hp,hll];rfl)))
 ·simp only[decide_eq_false_iff_not]at h17;refine⟨?_,hI.2⟩;rw[kj_ (by rw[hll];omega),List.take_of_length_le (by rw[hll];exact Nat.le_refl _)];exact ad_ _
 refine .ret ⟨.inr rfl,?_⟩
 exact Out.pl (by simp only[Tryz.results149];rfl) (by simp only[ba_,go_sem,seval,hp,hll]<;>(simp[hI.2])) (h1:=by simp only[a1_,bn_,go_sem,seval,hp,hll]<;>(split<;>rfl)) (h3:=by simp only[go_sem,seval,hp,hll])
attribute [local go_sem] cm_ al_ in
theorem adj_ (p:Pg):ACall En 150 [.ag (pgC p)] [] [.s p.line] []:=by
 refine aa_ [] Tryz.func150 Tryz.ntmps150 fun C=>?_
 refine .seq (.rg [] ?_)
 refine .seq (.rg [] ?_)
 refine .ret ⟨.inr rfl,Out.pP Tryz.results150 ?_⟩;trivial
attribute [local go_sem] cm_ al_ in
theorem afa_ (p:Pg):ACall En 151 [.ag (pgC p)] [] [.s p.text] []:=by
 refine aa_ [] Tryz.func151 Tryz.ntmps151 fun C=>?_
 refine .seq (.rg [] ?_)
 refine .seq (.rg [] ?_)
 refine .ret ⟨.inr rfl,Out.pP Tryz.results151 ?_⟩;trivial
attribute [local go_sem] a3_ in
theorem ss_ (l:List Pg) (hs:∀p∈l,pgB p) (hl:l.length≤2000000):ACall En 82 [.sl false (pgR l)] [] [.s (bc_ l)] []:=by
 refine aa_ [] Tryz.func82 Tryz.ntmps82 fun C=>?_
 refine .seq (.rg [] ?_)
 refine .seq (.rg [ab_ (acz_ _ (·.line) adj_ (fun p hp=>(is_ (kt_ hp).1).2) l hs hl)] ?_)
 refine .ret ⟨.inr rfl,Out.pP Tryz.results82 ?_⟩;rfl
attribute [local go_sem] a3_ in
theorem s3_ (l:List Pg) (hs:∀p∈l,pgB p) (hl:l.length≤2000000):ACall En 83 [.sl false (pgR l)] [] [.s (d5_ l)] []:=by
 refine aa_ [] Tryz.func83 Tryz.ntmps83 fun C=>?_
 refine .seq (.rg [] ?_)
 refine .seq (.rg [ab_ (acz_ _ (·.text) afa_ (fun p hp=>by rw[(il_ hp).1];exact(pf_ _).2) l hs hl)] ?_)
 refine .ret ⟨.inr rfl,Out.pP Tryz.results83 ?_⟩;rfl
theorem ad6_ {l:List Pg} {k:Nat} (h:(l.getD k Pg0).good=false):ge_ l (k+1)=ge_ l k++[(k:Int)]:=by rw[ge_,h];rfl
attribute [local go_sem] bl_ a3_ cm_ al_ a2_ aw_ a5_ in
theorem aid_ (l:List Pg) (hs:∀p∈l,pgB p) (hl:l.length≤2000000):ACall En 87 [.sl false (pgR l)] [] [.sl false (inR (ky_ l))] []:=by
 have hB:=fun k=>pz_ l k
 refine aa_ [] Tryz.func87 Tryz.ntmps87 fun C=>?_
 refine .seq (.rg [] ?_)
 refine .seq (.seq (.rg [ab_ (nj_ l hs hl)] ?_))
 refine .cB (fun h8=>?_) fun h8=>?_
 ·refine .seq (.rg [] ?_)
  refine .ret ⟨.inr rfl,Out.pQ Tryz.results87 ?_⟩;simp at h8;simp[ky_,h8,inR,les,ler,leV]
 refine .skip (.seq (.rg [] ?_))
 refine .seq (.seq (.rg [] ?_))
 refine .block (.loopK (fun k:Nat=>⟨[.no,.no,.no,.ow 20 1 0 (ge_ l k).length,.no,.no,.no,.no,.no,.sl false (pgR l),.i .i64 l.length,.i .i64 k,.no,.no,.no,.no,.no,.no,.no,.no,.no,.no,.no,.no,.no,.no],ae_ [(20,⟨3,1,inR (ge_ l k)⟩)],us [20]⟩) (fun k:Nat=>k≤l.length∧bi_ l=true) (fun k:Nat=>l.length - k) (0) ?_ ?_ (fun k hI=>?_))
 ·exact⟨by simp,by simpa using h8⟩
 ·refine Can.trans (Can.ownSlot 3 20 3 1 (by simp only[go_sem,seval]<;>rfl) (by simp only[go_sem,seval]) (by simp only[go_sem,seval]<;>rfl)) ?_
  refine Can.wk ?_ ?_
  ·simp[ge_]
  simp[ge_,inR]
 refine .seq (.rg [] ?_)
 refine .seq (.cB (fun h12=>?_) fun h12=>?_)
 ·refine .skip (.seqJ (fun u:Unit=>⟨[.no,.no,.no,.ow 20 1 0 (ge_ l (k+1)).length,.no,.no,.no,.no,.no,.sl false (pgR l),.i .i64 l.length,.i .i64 k,.no,.no,.no,.no,.no,.no,.no,.no,.no,.no,.no,.no,.no,.no],ae_ [(20,⟨3,1,inR (ge_ l (k+1))⟩)],us [20]⟩) (fun u:Unit=>True) ?_ (fun u hJ=>?_))
  ·refine .block (.seq (.rgo [] ?_ ?_ (h:=by simp only[go_sem,seval,c4_ (show k<l.length by simpa using h12)];rfl)))
   ·((simp only[decide_eq_true_eq]at h12;and_intros<;>omega))
   refine .seq (.rg [] ?_)
   refine .cB (fun h18=>?_) fun h18=>?_
   ·refine .rgo [] ?_ ?_
    ·((have:=hB k;simp[a2_];omega))
    refine Exists.intro (()) ⟨?_,?_⟩
    ·trivial
    refine Can.trans (Can.sX 32 20) ?_
    refine Can.wk ?_ ?_
    ·(rw[adg_ (i:=k) (n:=0) (by simpa using h18)];done)
    (rw[ad6_ (k:=k) (by simpa using h18),dn_];done)
   refine .skip ?_
   refine Exists.intro (()) ⟨?_,?_⟩
   ·trivial
   refine Can.wk ?_ ?_
   ·(rw[ms_ (i:=k) (by simpa using h18)];done)
   (rw[ms_ (i:=k) (by simpa using h18)];done)
  refine .rg [] ?_
  refine⟨k+1,?_,?_,?_⟩
  ·simp at h12;exact⟨by omega,hI.2⟩
  ·simp at h12;omega
  refine Can.wh ?_;rw[ac_ (by simp at h12;omega) (by simp at h12;omega)];simp
 refine .exit (.seq (.rgo [at_ [20] [] (al8_ (ge_ l l.length) (by have:=hB l.length;omega))] ?_ ?_))
 ·simp only[decide_eq_false_iff_not]at h12;(obtain rfl:k=l.length:=(by omega));simp
 refine .fX 20 ?_
 refine .ret ⟨.inr rfl,Out.pQ Tryz.results87 ?_⟩;rw[List.take_of_length_le (by rw[a2_];exact Nat.le_refl _)];simp[ky_,hI.2,les,leV,ad_]
attribute [local go_sem] bl_ a3_ cm_ al_ cf_ df_ in
theorem sc_ (l:List Pg) (hs:∀p∈l,pgB p) (hl:l.length≤2000000):ACall En 85 [.sl false (pgR l)] [] [.sl false (sgR (a6_ l))] []:=by
 have hE:∀k,bi_ l=true∧k<l.length→ACall En 154 [.i .i64 k,.s (l.getD k Pg0).text,.sl false (inR (l.getD k Pg0).frm)] [] [.sl false (sgR (sgs k ((az_ (l.getD k Pg0).text).getD []) (l.getD k Pg0).frm))] []:=fun k h=>by
  obtain⟨q1,q2,_⟩:=il_ ((b5_ h.1).2.2 k h.2)
  have hk:=w8_ (l.getD k Pg0).line
  rw[q1,q2]
  exact aqe_ k _ _ (by have:=a02_ hk;omega) (by rw[adb_ hk];exact Nat.le_refl _) (by have:=acn_ hk;omega)
 have hN:∀k,bi_ l=true→k≤l.length→(h4_ l k).length≤2000:=fun k h hk=>by
  rw[acq_ h k hk]
  have:=aic_ (vq_ h) (k:=k) (by rw[lb_];exact hk)
  have:=(b5_ h).2.1
  omega
 refine aa_ [] Tryz.func85 Tryz.ntmps85 fun C=>?_
 refine .seq (.rg [] ?_)
 refine .seq (.seq (.rg [ab_ (nj_ l hs hl)] ?_))
 refine .cB (fun h8=>?_) fun h8=>?_
 ·refine .seq (.rg [] ?_)
  refine .ret ⟨.inr rfl,Out.pQ Tryz.results85 ?_⟩;simp at h8;simp[a6_,h8,sgR,ler]
 refine .skip (.seq (.rg [] ?_))
 refine .seqJ (fun u:Unit=>⟨[.no,.no,.no,.sl false (sgR (h4_ l l.length)),.no,.no,.no,.no,.no,.no,.no,.no,.no,.no,.no,.no,.no,.no,.no,.no,.no,.no,.no,.no,.no,.no,.no,.no,.no],ae_ [],us []⟩) (fun u:Unit=>bi_ l=true) ?_ (fun u hJ=>?_)
 ·refine .seq (.rg [] ?_)
  refine .block (.loopK (fun k:Nat=>⟨[.no,.no,.no,.ow 20 4 0 (h4_ l k).length,.no,.no,.no,.no,.no,.sl false (pgR l),.i .i64 l.length,.i .i64 k,.no,.no,.no,.no,.no,.no,.no,.no,.no,.no,.no,.no,.no,.no,.no,.no,.no],ae_ [(20,⟨138,4,sgR (h4_ l k)⟩)],us [20]⟩) (fun k:Nat=>k≤l.length∧bi_ l=true) (fun k:Nat=>l.length - k) (0) ?_ ?_ (fun k hI=>?_))
  ·exact⟨by simp,by simpa using h8⟩
  ·refine Can.trans (Can.ownSlot 3 20 138 4 (by simp only[go_sem,seval]<;>rfl) (by simp only[go_sem,seval]) (by simp only[go_sem,seval]<;>rfl)) ?_
   refine Can.wk ?_ ?_
   ·simp[h4_]
   simp[h4_,sgR]
  refine .seq (.rg [] ?_)
  refine .seq (.cB (fun h12=>?_) fun h12=>?_)
  ·refine .skip (.seqJ (fun u:Unit=>⟨[.no,.no,.no,.ow 20 4 0 (h4_ l (k+1)).length,.no,.no,.no,.no,.no,.sl false (pgR l),.i .i64 l.length,.i .i64 k,.no,.no,.no,.no,.no,.no,.no,.no,.no,.no,.no,.no,.no,.no,.no,.no,.no],ae_ [(20,⟨138,4,sgR (h4_ l (k+1))⟩)],us [20]⟩) (fun u:Unit=>True) ?_ (fun u hJ=>?_))
   ·refine .block (.seq (.rgo [] ?_ ?_ (h:=by simp only[go_sem,seval,c4_ (show k<l.length by simpa using h12)];rfl)))
    ·((simp only[decide_eq_true_eq]at h12;have hk:k<l.length:=(by omega);have q1:=hN k hI.2 (by omega);have q2:=aag_ k ((az_ (l.getD k Pg0).text).getD []) (l.getD k Pg0).frm;have q3:=(hs _ (ag_ (d:=Pg0) hk)).2.2;first|(and_intros<;>omega)|exact⟨⟨hI.2,hk⟩,of_eq_true (agv_ _),by simp,by omega⟩))
    refine .seq (.rg [] ?_)
    refine .cB (fun h17=>?_) fun h17=>?_
    ·refine .rgo [a0_ (bi_ l=true∧k<l.length) (hE k)] ?_ ?_
     ·((simp only[decide_eq_true_eq]at h12;have hk:k<l.length:=(by omega);have q1:=hN k hI.2 (by omega);have q2:=aag_ k ((az_ (l.getD k Pg0).text).getD []) (l.getD k Pg0).frm;have q3:=(hs _ (ag_ (d:=Pg0) hk)).2.2;first|(and_intros<;>omega)|exact⟨⟨hI.2,hk⟩,of_eq_true (agv_ _),by simp,by omega⟩))
     refine Exists.intro (()) ⟨?_,?_⟩
     ·trivial
     refine Can.trans (Can.sX 35 20) ?_
     refine Can.wk ?_ ?_
     ·(rw[h4_,if_pos (by simpa using h17)];simp;done)
     (rw[h4_,if_pos (by simpa using h17)];simp[awh_];done)
    refine .skip ?_
    refine Exists.intro (()) ⟨?_,?_⟩
    ·trivial
    refine Can.wk ?_ ?_
    ·(rw[h4_,if_neg (by simpa using h17)];simp;done)
    (rw[h4_,if_neg (by simpa using h17)];simp;done)
   refine .rg [] ?_
   refine⟨k+1,?_,?_,?_⟩
   ·simp at h12;exact⟨by omega,hI.2⟩
   ·simp at h12;omega
   refine Can.wh ?_;rw[ac_ (by simp at h12;omega) (by simp at h12;omega)];simp
  refine .exit ?_
  refine Exists.intro (()) ⟨?_,?_⟩
  ·exact hI.2
  refine Can.trans (Can.frz 20 (by simp only[go_sem,seval]<;>rfl) (by simp only[go_sem,seval]) (by simp only[go_sem,seval]<;>rfl) (by simp only[go_sem,seval]<;>rfl)) ?_
  refine Can.wh ?_;simp at h12;(obtain rfl:k=l.length:=(by omega));simp[List.take_of_length_le,df_,leV,ad_]
 refine .seq (.rg [a0_ (bi_ l=true) (fun h=>an1_ (h4_ l l.length) (by have:=hN _ h (Nat.le_refl _);omega))] ?_)
 refine .ret ⟨.inr rfl,Out.pQ Tryz.results85 ?_⟩;simp[a6_,hJ,ad_,leV]
end
section
attribute [local go_sem] cm_ al_ a2_ in
theorem aok_ (p q:Pg) (hp:pgB p) (hq:pgB q):ACall En 178 [.ag (pgC p),.ag (pgC q)] [] [.b (decide (p=q))] []:=by
 have h1:=hp.2.2
 have h2:=hq.2.2
 refine aa_ [] Tryz.func178 Tryz.ntmps178 fun C=>?_
 refine .seq (.rg [] ?_)
 refine .seq (.seq (.rg [] ?_))
 refine .cB (fun h33=>?_) fun h33=>?_
 ·refine .seq (.rg [] ?_)
  refine .ret ⟨.inr rfl,Out.pP Tryz.results178 ?_⟩;rw[decide_eq_false];rintro rfl;simp at h33
 refine .skip (.seq (.seq (.rg [] ?_)))
 refine .block (.loopK (fun k:Nat=>⟨[.no,.no,.pt 12 4 0 0,.pt 13 4 0 0,.no,.i .i64 k,.no,.no,.no,.no,.no,.no,.no,.no,.no,.no,.no,.no,.no,.no,.no,.no,.no,.no,.no,.no,.no,.no,.no,.no,.no,.no,.no,.no,.no,.no,.no,.no,.no,.no,.no,.no,.no,.no,.no,.no,.no,.no,.no,.no,.no,.no],ae_ [(12,⟨67,4,[pgC p]⟩),(13,⟨67,4,[pgC q]⟩)],us [12,13]⟩) (fun k:Nat=>k≤p.frm.length∧p.frm.take k=q.frm.take k) (fun k:Nat=>p.frm.length - k) (0) ?_ ?_ (fun k hI=>?_))
 ·exact⟨Nat.zero_le _,rfl⟩
 ·refine Can.wh ?_;trivial
 refine .seq (.seq (.rg [] ?_))
 refine .cB (fun h38=>?_) fun h38=>?_
 ·refine .skip (.seq (.block (.seq (.rgDo [] ?_ ?_ (h:=by simp only[go_sem,seval,c1_ (show k<p.frm.length by simpa using h38),c1_ (show k<q.frm.length by have e:=(t6_ h33).2.2.2;simp only[decide_eq_true_eq]at h38;omega)];rfl)))))
  ·have e:=(t6_ h33).2.2.2;simp only[decide_eq_true_eq]at h38;and_intros<;>omega
  refine .cB (fun h51=>?_) fun h51=>?_
  ·refine .seq (.rg [] ?_)
   refine .ret ⟨.inr rfl,Out.pP Tryz.results178 ?_⟩;rw[decide_eq_false];rintro rfl;simp at h51
  refine .skip (.rg [] ?_)
  refine⟨k+1,?_,?_,?_⟩
  ·have e:=(t6_ h33).2.2.2;simp only[decide_eq_true_eq]at h38;exact⟨by omega,aft_ (d:=0) (by omega) (by omega) hI.2 (bne_eq_false_iff_eq.1 h51)⟩
  ·simp only[decide_eq_true_eq]at h38;omega
  refine Can.wh ?_;simp only[decide_eq_true_eq]at h38;exact ac_ (n:=((k+1:Nat):Int)) (by omega) (by omega)
 refine .exit (.seq (.rg [] ?_))
 refine .ret ⟨.inr rfl,Out.pP Tryz.results178 ?_⟩;simp only[decide_eq_false_iff_not]at h38;have e:=t6_ h33;have e2:=hI.2;rw[List.take_of_length_le (by omega),List.take_of_length_le (by omega)]at e2;rw[decide_eq_true (af2_.2 ⟨⟨⟨e.1,e.2.1⟩,e.2.2.1⟩,e2⟩)]
theorem awu_ {l:List Pg} {k:Nat} (h:k<l.length):(l.take (k+1)).all okP=((l.take k).all okP&&okP (l.getD k Pg0)):=by
 rw[List.take_add_one,List.getElem?_eq_getElem h,List.all_append,List.getD_eq_getElem?_getD,List.getElem?_eq_getElem h];simp
theorem aq6_ {l:List Pg} {k:Nat} (hk:k<l.length) (h:okP (l.getD k Pg0)=false):bi_ l=false:=by
 rw[Bool.eq_false_iff];intro q
 rw[(b5_ q).2.2 k hk]at h;cases h
theorem awr_ {p:Pg} (h:(!tOk p.line||decide (((spl p.line).length:Int) > 1)||!decide (p=dl_ p.line))=false):okP p=true:=by
 rw[x7_,←Bool.not_and,Bool.not_eq_false']at h;exact h
theorem ayy_ {p:Pg} (h:(!tOk p.line||decide (((spl p.line).length:Int) > 1)||!decide (p=dl_ p.line))=true):okP p=false:=by
 rw[x7_,←Bool.not_and,Bool.not_eq_true']at h;exact h
theorem bkTk {ls:List Str} {k:Nat} (h:k<ls.length):pgR ((ls.take (k+1)).map dl_)=pgR ((ls.take k).map dl_)++[pgC (dl_ (ls.getD k []))]:=by
 rw[List.take_add_one,List.getElem?_eq_getElem h,List.getD_eq_getElem?_getD,List.getElem?_eq_getElem h,List.map_append];unfold pgR;rw[List.map_append];rfl
theorem txTk {f:Pg→Str} {l:List Pg} {k:Nat} (h:k<l.length):ai_ ((l.take (k+1)).map f)=ai_ ((l.take k).map f)++[[.s (f (l.getD k Pg0))]]:=by
 rw[List.take_add_one,List.getElem?_eq_getElem h,List.getD_eq_getElem?_getD,List.getElem?_eq_getElem h,List.map_append];unfold ai_;rw[List.map_append];rfl
attribute [local go_sem] bl_ a3_ cm_ al_ af_ ah_ in
theorem hi_ (l:List Pg) (hs:∀p∈l,pgB p) (hl:l.length≤2000000):ACall En 112 [.sl false (pgR l)] [] [.b (bi_ l)] []:=by
 have hB:∀k,k<l.length→pgB (l.getD k Pg0):=fun k h=>hs _ (ag_ h)
 refine aa_ [] Tryz.func112 Tryz.ntmps112 fun C=>?_
 refine .seq (.rg [] ?_)
 refine .seq (.seq (.rg [] ?_))
 refine .block (.loopK (fun k:Nat=>⟨[.sl false (pgR l),.no,.no,.i .i64 k,.no,.no,.no,.no,.no,.no,.no,.no,.no,.no,.no,.no,.no,.no,.no,.no,.no,.no,.no,.no,.no,.no,.no,.no,.no,.no,.no,.no,.no,.no,.no,.no,.no,.no,.no,.no,.no,.no,.no,.no,.no,.no,.no,.no,.no],ae_ [],us []⟩) (fun k:Nat=>k≤l.length∧(l.take k).all okP=true) (fun k:Nat=>l.length - k) (0) ?_ ?_ (fun k hI=>?_))
 ·exact⟨Nat.zero_le _,rfl⟩
 ·refine Can.wh ?_;trivial
 refine .seq (.seq (.rg [] ?_))
 refine .cB (fun h7=>?_) fun h7=>?_
 ·refine .skip (.seq (.block (.seq (.rgDo [a0_ (k<l.length) (fun h=>nh_ (l.getD k Pg0).line (by have:=(hB k h).1;omega)),a0_ (k<l.length∧tOk (l.getD k Pg0).line=true) (fun h=>pi_ (l.getD k Pg0).line (nc_ h.2)),a0_ (k<l.length) (fun h=>ne_ (l.getD k Pg0).line (by have:=(hB k h).1;omega)),a0_ (k<l.length) (fun h=>aok_ (l.getD k Pg0) (dl_ (l.getD k Pg0).line) (hB k h) (abf_ (hB k h).1))] ?_ ?_ (h:=by simp only[go_sem,seval,c4_ (show k<l.length by simpa using h7)];rfl)))))
  ·simp only[decide_eq_true_eq]at h7;and_intros<;>first|omega|trivial|exact fun h=>⟨h,by omega,by omega⟩|exact fun h=>⟨h,by omega⟩|exact fun h=>⟨h,by omega,by simpa using h⟩|exact fun h=>by rw[h];rfl
  refine .cB (fun h40=>?_) fun h40=>?_
  ·refine .seq (.rg [] ?_)
   refine .ret ⟨.inr rfl,Out.pP Tryz.results112 ?_⟩;rw[aq6_ (k:=k) (by simpa using h7) (ayy_ h40)]
  refine .skip (.rg [] ?_)
  refine⟨k+1,?_,?_,?_⟩
  ·simp at h7;refine⟨by omega,?_⟩;rw[awu_ h7,hI.2,awr_ h40];rfl
  ·simp at h7;omega
  refine Can.wh ?_;rw[ac_ (by simp at h7;omega) (by simp at h7;omega)];(try simp)
 refine .exit (.seq (.rg [] ?_))
 refine .ret ⟨.inr rfl,Out.pP Tryz.results112 ?_⟩;simp only[decide_eq_false_iff_not]at h7;have e:=hI.2;rw[List.take_of_length_le (by omega)]at e;unfold bi_;rw[e];simp only[dt_,Bool.and_true];rfl
attribute [local go_sem] af_ ah_ a3_ bl_ cm_ al_ in
theorem ai6_ (s:Str) (hs:s.length≤281474976710656):ACall En 8 [.s s] [] [.ow 0 4 0 (f4_ s).length] [⟨67,4,pgR (f4_ s)⟩]:=by
 have hL:=e5_ s
 have hM:=hb_ s
 have hb:f4_ s=if (bo_ s).length≤16 then(bo_ s).map dl_ else []:=rfl
 have T:=k9_ s hs
 generalize bo_ s=ls at *
 refine aa_ [60] Tryz.func8 Tryz.ntmps8 fun C=>?_
 refine .seq (.rg [] ?_)
 refine .seq (.rg [] ?_)
 refine .seq (.rg [ab_ T] ?_)
 refine .seq (.seq (.rg [] ?_))
 refine .cB (fun h11=>?_) fun h11=>?_
 ·refine .seq (.rg [] ?_)
  refine .can (Can.ownSlot 2 60 67 4 (by simp only[go_sem,seval]<;>rfl) (by simp only[go_sem,seval]) (by simp only[go_sem,seval]<;>rfl)) ?_
  refine .ret ⟨.inr rfl,Out.mP Tryz.results8 ?_ ?_⟩
  ·rw[show f4_ s=[] by rw[hb,if_neg (by simp at h11;omega)]];rfl
  rw[show f4_ s=[] by rw[hb,if_neg (by simp at h11;omega)]];rfl
 refine .skip (.seq (.seq (.rg [] ?_)))
 refine .block (.loopK (fun k:Nat=>⟨[.no,.no,.no,.ow 60 4 0 k,.sl false (ai_ ls),.i .i64 k,.no,.no,.no,.no,.no,.no,.no,.no,.no,.no,.no,.no,.no,.no,.no,.no,.no,.no,.no,.no,.no,.no],ae_ [(60,⟨67,4,pgR ((ls.take k).map dl_)⟩)],us [60]⟩) (fun k:Nat=>k≤ls.length) (fun k:Nat=>ls.length - k) (0) ?_ ?_ (fun k hI=>?_))
 ·simp
 ·refine Can.trans (Can.ownSlot 3 60 67 4 (by simp only[go_sem,seval]<;>rfl) (by simp only[go_sem,seval]) (by simp only[go_sem,seval]<;>rfl)) ?_
  refine Can.wk ?_ ?_
  ·trivial
  (try simp[pgR])
 refine .seq (.seq (.rg [] ?_))
 refine .cB (fun h16=>?_) fun h16=>?_
 ·refine .skip (.seq (.block (.rgo [a0_ (k<ls.length) (fun h=>ne_ (ls.getD k []) (by have:=hM _ (ag_ (d:=[]) h);omega))] ?_ ?_ (h:=by simp only[go_sem,seval,an_ (show k<ls.length by simpa using h16)];rfl))))
  ·((simp only[decide_eq_true_eq,decide_eq_false_iff_not]at h11 h16;and_intros<;>first|omega|(simp;done)|(simp;omega)))
  refine .rg [] ?_
  refine⟨k+1,?_,?_,?_⟩
  ·simp at h16;omega
  ·simp at h16;omega
  refine Can.trans (Can.sX 36 60) ?_
  refine Can.wk ?_ ?_
  ·rw[ac_ (by simp at h16;omega) (by simp at h16;omega)];(try simp)
  rw[bkTk (by simpa using h16),cm_]
 refine .exit (.seq (.rg [] ?_))
 refine .ret ⟨.inr rfl,Out.mP Tryz.results8 ?_ ?_⟩
 ·simp only[decide_eq_false_iff_not]at h11 h16;rw[show f4_ s=ls.map dl_ by rw[hb,if_pos (by omega)],List.length_map,show k=ls.length by omega]
 simp only[decide_eq_false_iff_not]at h11 h16;rw[show f4_ s=ls.map dl_ by rw[hb,if_pos (by omega)],List.take_of_length_le (show ls.length≤k by omega)]
theorem apf_ (s:Str) (hs:s.length≤281474976710656):ACall En 8 [.s s] [] [.sl false (pgR (f4_ s))] []:=
 (ai6_ s hs).frz1 (by simp[er_,frz,bl_,List.take_of_length_le])
def fTx (f:Pg→Str) (l:List Pg):List Str:=if bi_ l then l.map f else []
theorem ap2_ {f:Pg→Str} {l:List Pg} (hf:∀p,okP p=true→(f p).length≤120):(bt_ (fTx f l)).length≤3000∧(fTx f l).length≤16:=by
 unfold fTx
 split
 ·rename_i h
  have h1:=(b5_ h).2.1
  have:=aep_ (l:=l.map f) (k:=120) fun s hs=>by
   obtain⟨p,hp,rfl⟩:=List.mem_map.1 hs
   exact hf p (gj_ h p hp)
  rw[List.length_map]at this
  have:=Nat.mul_le_mul_right 121 h1
  exact⟨by omega,by rw[List.length_map];exact h1⟩
 simp[qp_]
theorem aqm_ (f:Pg→Str) (l:List Pg):bt_ (fTx f l)=if bi_ l then bt_ (l.map f)else []:=by
 unfold fTx;split<;>rfl
theorem txE {f:Pg→Str} {l:List Pg} {k:Nat} (hk:k≤l.length) (h:bi_ l=true∨k=0) (h2:(decide ((k:Int)<l.length)&&bi_ l)=false):(l.take k).map f=fTx f l:=by
 unfold fTx
 cases hb:bi_ l with
 |true=>
  rw[hb]at h2
  simp at h2
  rw[if_pos rfl,List.take_of_length_le h2]
 |false=>
  rw[hb]at h
  obtain rfl:k=0:=by simpa using h
  simp
theorem txJ {f:Pg→Str} {l:List Pg} {k:Nat} (hk:k≤l.length) (h:bi_ l=true∨k=0) (h2:(decide ((k:Int)<l.length)&&bi_ l)=false):leV (if k≤((l.take k).map f).length then V.sl false ((ai_ ((l.take k).map f)).take k)else V.no) (V.sl false (ai_ (fTx f l))):=by
 rw[if_pos (by simp;omega),List.take_of_length_le (by rw[af_,List.length_map,List.length_take];exact Nat.min_le_left _ _),txE hk h h2]
 exact⟨fun h=>h,ad_ _⟩
theorem bnE {l:List Pg} {k:Nat} (hk:k≤l.length) (h:bi_ l=true∨k=0) (h2:(decide ((k:Int)<l.length)&&bi_ l)=false):ge_ l k=ky_ l:=by
 unfold ky_
 cases hb:bi_ l with
 |true=>
  rw[hb]at h2
  simp at h2
  rw[if_pos rfl,show k=l.length by omega]
 |false=>
  rw[hb]at h
  obtain rfl:k=0:=by simpa using h
  rfl
attribute [local go_sem] bl_ a3_ cm_ al_ ah_ af_ in
theorem s4_ (l:List Pg) (hs:∀p∈l,pgB p) (hl:l.length≤2000000):ACall En 61 [.sl false (pgR l)] [] [.s (bc_ l)] []:=by
 have hT:=ap2_ (f:=(·.line)) (l:=l) (fun p hp=>(is_ (kt_ hp).1).2)
 have hX:bc_ l=bt_ (fTx (·.line) l):=by rw[aqm_];rfl
 refine aa_ [] Tryz.func61 Tryz.ntmps61 fun C=>?_
 refine .seq (.rg [] ?_)
 refine .seq (.rg [] ?_)
 refine .seqJ (fun u:Unit=>⟨[.no,.no,.no,.sl false (ai_ (fTx (·.line) l)),.no,.no,.no,.no,.no,.no,.no,.no,.no,.no,.no,.no,.no,.no,.no,.no,.no,.no,.no,.no,.no,.no],ae_ [],us []⟩) (fun u:Unit=>True) ?_ (fun u hJ=>?_)
 ·refine .seq (.rg [] ?_)
  refine .block (.loopK (fun k:Nat=>⟨[.sl false (pgR l),.no,.no,.ow 60 1 0 k,.i .i64 k,.no,.no,.no,.no,.no,.no,.no,.no,.no,.no,.no,.no,.no,.no,.no,.no,.no,.no,.no,.no,.no],ae_ [(60,⟨9,1,ai_ ((l.take k).map (·.line))⟩)],us [60]⟩) (fun k:Nat=>k≤l.length∧(bi_ l=true∨k=0)) (fun k:Nat=>l.length - k) (0) ?_ ?_ (fun k hI=>?_))
  ·exact⟨Nat.zero_le _,.inr rfl⟩
  ·refine Can.trans (Can.ownSlot 3 60 9 1 (by simp only[go_sem,seval]<;>rfl) (by simp only[go_sem,seval]) (by simp only[go_sem,seval]<;>rfl)) ?_
   refine Can.wk ?_ ?_
   ·trivial
   (try simp[ai_])
  refine .seq (.seq (.rg [ab_ (hi_ l hs hl)] ?_))
  refine .cB (fun h13=>?_) fun h13=>?_
  ·refine .skip (.seq (.block (.rgo [] ?_ ?_ (h:=by simp only[go_sem,seval,c4_ (show k<l.length by simp at h13;omega)];rfl))))
   ·((simp only[Bool.and_eq_true,decide_eq_true_eq]at h13;and_intros<;>first|omega|(simp;done)|(simp;omega)))
   refine .rg [] ?_
   refine⟨k+1,?_,?_,?_⟩
   ·simp at h13;exact⟨by omega,.inl h13.2⟩
   ·simp at h13;omega
   refine Can.trans (Can.sX 33 60) ?_
   refine Can.wk ?_ ?_
   ·rw[ac_ (by simp at h13;omega) (by simp at h13;omega)];(try simp)
   simp at h13;rw[txTk h13.1]
  refine .exit ?_
  refine Exists.intro (()) ⟨?_,?_⟩
  ·trivial
  refine Can.trans (Can.frz 60 (by simp only[go_sem,seval]<;>rfl) (by simp only[go_sem,seval]) (by simp only[go_sem,seval]<;>rfl) (by simp only[go_sem,seval]<;>rfl)) ?_
  refine Can.wh ?_;exact txJ hI.1 hI.2 h13
 refine .seq (.rg [ab_ (so_ (fTx (·.line) l) (by omega) (by omega))] ?_)
 refine .ret ⟨.inr rfl,Out.pP Tryz.results61 ?_⟩;rw[hX]
attribute [local go_sem] bl_ a3_ cm_ al_ ah_ af_ in
theorem sn_ (l:List Pg) (hs:∀p∈l,pgB p) (hl:l.length≤2000000):ACall En 62 [.sl false (pgR l)] [] [.s (d5_ l)] []:=by
 have hT:=ap2_ (f:=(·.text)) (l:=l) (fun p hp=>by rw[(il_ hp).1];exact(pf_ _).2)
 have hX:d5_ l=bt_ (fTx (·.text) l):=by rw[aqm_];rfl
 refine aa_ [] Tryz.func62 Tryz.ntmps62 fun C=>?_
 refine .seq (.rg [] ?_)
 refine .seq (.rg [] ?_)
 refine .seqJ (fun u:Unit=>⟨[.no,.no,.no,.sl false (ai_ (fTx (·.text) l)),.no,.no,.no,.no,.no,.no,.no,.no,.no,.no,.no,.no,.no,.no,.no,.no,.no,.no,.no,.no,.no,.no],ae_ [],us []⟩) (fun u:Unit=>True) ?_ (fun u hJ=>?_)
 ·refine .seq (.rg [] ?_)
  refine .block (.loopK (fun k:Nat=>⟨[.sl false (pgR l),.no,.no,.ow 60 1 0 k,.i .i64 k,.no,.no,.no,.no,.no,.no,.no,.no,.no,.no,.no,.no,.no,.no,.no,.no,.no,.no,.no,.no,.no],ae_ [(60,⟨9,1,ai_ ((l.take k).map (·.text))⟩)],us [60]⟩) (fun k:Nat=>k≤l.length∧(bi_ l=true∨k=0)) (fun k:Nat=>l.length - k) (0) ?_ ?_ (fun k hI=>?_))
  ·exact⟨Nat.zero_le _,.inr rfl⟩
  ·refine Can.trans (Can.ownSlot 3 60 9 1 (by simp only[go_sem,seval]<;>rfl) (by simp only[go_sem,seval]) (by simp only[go_sem,seval]<;>rfl)) ?_
   refine Can.wk ?_ ?_
   ·trivial
   (try simp[ai_])
  refine .seq (.seq (.rg [ab_ (hi_ l hs hl)] ?_))
  refine .cB (fun h13=>?_) fun h13=>?_
  ·refine .skip (.seq (.block (.rgo [] ?_ ?_ (h:=by simp only[go_sem,seval,c4_ (show k<l.length by simp at h13;omega)];rfl))))
   ·((simp only[Bool.and_eq_true,decide_eq_true_eq]at h13;and_intros<;>first|omega|(simp;done)|(simp;omega)))
   refine .rg [] ?_
   refine⟨k+1,?_,?_,?_⟩
   ·simp at h13;exact⟨by omega,.inl h13.2⟩
   ·simp at h13;omega
   refine Can.trans (Can.sX 33 60) ?_
   refine Can.wk ?_ ?_
   ·rw[ac_ (by simp at h13;omega) (by simp at h13;omega)];(try simp)
   simp at h13;rw[txTk h13.1]
  refine .exit ?_
  refine Exists.intro (()) ⟨?_,?_⟩
  ·trivial
  refine Can.trans (Can.frz 60 (by simp only[go_sem,seval]<;>rfl) (by simp only[go_sem,seval]) (by simp only[go_sem,seval]<;>rfl) (by simp only[go_sem,seval]<;>rfl)) ?_
  refine Can.wh ?_;exact txJ hI.1 hI.2 h13
 refine .seq (.rg [ab_ (so_ (fTx (·.text) l) (by omega) (by omega))] ?_)
 refine .ret ⟨.inr rfl,Out.pP Tryz.results62 ?_⟩;rw[hX]
attribute [local go_sem] bl_ a3_ cm_ al_ a2_ in
theorem ahq_ (l:List Pg) (hs:∀p∈l,pgB p) (hl:l.length≤2000000):ACall En 66 [.sl false (pgR l)] [] [.sl false (inR (ky_ l))] []:=by
 have hB:=fun k=>pz_ l k
 refine aa_ [] Tryz.func66 Tryz.ntmps66 fun C=>?_
 refine .seq (.rg [] ?_)
 refine .seq (.rg [] ?_)
 refine .seq (.seq (.rg [] ?_))
 refine .block (.loopK (fun k:Nat=>⟨[.sl false (pgR l),.no,.no,.ow 60 1 0 (ge_ l k).length,.i .i64 k,.no,.no,.no,.no,.no,.no,.no,.no,.no,.no,.no,.no,.no,.no,.no,.no,.no,.no,.no,.no,.no,.no],ae_ [(60,⟨3,1,inR (ge_ l k)⟩)],us [60]⟩) (fun k:Nat=>k≤l.length∧(bi_ l=true∨k=0)) (fun k:Nat=>l.length - k) (0) ?_ ?_ (fun k hI=>?_))
 ·exact⟨Nat.zero_le _,.inr rfl⟩
 ·refine Can.trans (Can.ownSlot 3 60 3 1 (by simp only[go_sem,seval]<;>rfl) (by simp only[go_sem,seval]) (by simp only[go_sem,seval]<;>rfl)) ?_
  refine Can.wk ?_ ?_
  ·(try simp[ge_])
  (try simp[ge_,inR])
 refine .seq (.seq (.rg [ab_ (hi_ l hs hl)] ?_))
 refine .cB (fun h13=>?_) fun h13=>?_
 ·refine .skip (.seqJ (fun u:Unit=>⟨[.sl false (pgR l),.no,.no,.ow 60 1 0 (ge_ l (k+1)).length,.i .i64 k,.no,.no,.no,.no,.no,.no,.no,.no,.no,.no,.no,.no,.no,.no,.no,.no,.no,.no,.no,.no,.no,.no],ae_ [(60,⟨3,1,inR (ge_ l (k+1))⟩)],us [60]⟩) (fun u:Unit=>True) ?_ (fun u hJ=>?_))
  ·refine .block (.seq (.rgo [] ?_ ?_ (h:=by simp only[go_sem,seval,c4_ (show k<l.length by simp at h13;omega)];rfl)))
   ·((simp only[Bool.and_eq_true,decide_eq_true_eq]at h13;and_intros<;>omega))
   refine .cB (fun h21=>?_) fun h21=>?_
   ·refine .rgo [] ?_ ?_
    ·((have:=hB k;simp[a2_];omega))
    refine Exists.intro (()) ⟨?_,?_⟩
    ·trivial
    refine Can.trans (Can.sX 35 60) ?_
    refine Can.wk ?_ ?_
    ·(rw[adg_ (i:=k) (n:=0) (by simpa using h21)];done)
    (rw[ad6_ (k:=k) (by simpa using h21),dn_];done)
   refine .skip ?_
   refine Exists.intro (()) ⟨?_,?_⟩
   ·trivial
   refine Can.wk ?_ ?_
   ·(rw[ms_ (i:=k) (by simpa using h21)];done)
   (rw[ms_ (i:=k) (by simpa using h21)];done)
  refine .rg [] ?_
  refine⟨k+1,?_,?_,?_⟩
  ·simp at h13;exact⟨by omega,.inl h13.2⟩
  ·simp at h13;omega
  refine Can.wh ?_;rw[ac_ (by simp at h13;omega) (by simp at h13;omega)];(try simp)
 refine .exit (.seq (.rg [] ?_))
 refine .fX 60 ?_
 refine .ret ⟨.inr rfl,Out.pP Tryz.results66 ?_⟩;rw[bnE hI.1 hI.2 h13,List.take_of_length_le (by rw[a2_];exact Nat.le_refl _)]
end
section
def qv_ (l:List Pg) (k j:Nat):List Sg:=h4_ l k++sgK k ((az_ (l.getD k Pg0).text).getD []) (l.getD k Pg0).frm j
theorem bkTF {l:List Pg} (h:bi_ l=true) {k:Nat} (hk:k<l.length):((az_ (l.getD k Pg0).text).getD []).length=(l.getD k Pg0).frm.length∧(l.getD k Pg0).frm.length≤76:=by
 obtain⟨q1,q2,_⟩:=il_ ((b5_ h).2.2 k hk)
 have hs:=w8_ (l.getD k Pg0).line
 rw[q1,q2]
 exact⟨by rw[adb_ hs],acn_ hs⟩
theorem xq_ (l:List Pg) (k:Nat):qv_ l k 0=h4_ l k:=by unfold qv_;rw[u0_,List.append_nil]
theorem aea_ {l:List Pg} (h:bi_ l=true) {k j:Nat} (hk:k<l.length) (hj:(l.getD k Pg0).frm.length≤j):qv_ l k j=h4_ l (k+1):=by
 have h1:=bkTF h hk
 unfold qv_
 rw[alj_ (.inr hj),h4_]
 congr 1
 cases hg:(l.getD k Pg0).good with
 |true=>rfl
 |false=>
  have ho:=(b5_ h).2.2 k hk
  have:=(il_ ho).2.1
  rw[ap4_ ho hg,emF_S0]at this
  rw[this];unfold sgs;simp
theorem h0_ {l:List Pg} (h:bi_ l=true) {k j:Nat} (hk:k<l.length) (hj:j<(l.getD k Pg0).frm.length):qv_ l k (j+1)=qv_ l k j++(if 0≤(l.getD k Pg0).frm.getD j 0 then [((k:Int),(((az_ (l.getD k Pg0).text).getD []).getD j T0k).col,(k:Int),(l.getD k Pg0).frm.getD j 0)]else []):=by
 have h1:=bkTF h hk
 unfold qv_
 rw[gt_ (by omega) hj,List.append_assoc]
theorem alg_ {l:List Pg} (h:bi_ l=true) {k j:Nat} (hk:k<l.length) (hj:j≤(l.getD k Pg0).frm.length):(qv_ l k j).length≤3000:=by
 have h1:=bkTF h hk
 have h2:=aic_ (vq_ h) (k:=k) (by rw[lb_];omega)
 have h3:=th_ k ((az_ (l.getD k Pg0).text).getD []) (l.getD k Pg0).frm j
 unfold qv_
 rw[List.length_append,acq_ h k (by omega)]
 omega
theorem snE {l:List Pg} {k:Nat} (hk:k≤l.length) (h:0<k→bi_ l=true) (h2:(decide ((k:Int)<l.length)&&bi_ l)=false):h4_ l k=a6_ l:=by
 unfold a6_
 cases hb:bi_ l with
 |true=>
  rw[hb]at h2
  simp at h2
  rw[if_pos rfl,show k=l.length by omega]
 |false=>
  rw[hb]at h
  obtain rfl:k=0:=by rcases Nat.eq_zero_or_pos k with q|q;exact q;exact absurd (h q) (by decide)
  rfl
attribute [local go_sem] bl_ a3_ cm_ al_ a2_ hs_ gv_ cf_ df_ in
theorem mp_ (l:List Pg) (hs:∀p∈l,pgB p) (hl:l.length≤2000000):ACall En 64 [.sl false (pgR l)] [] [.sl false (sgR (a6_ l))] []:=by
 have hB:∀k,k<l.length→pgB (l.getD k Pg0):=fun k h=>hs _ (ag_ h)
 refine aa_ [] Tryz.func64 Tryz.ntmps64 fun C=>?_
 refine .seq (.rg [] ?_)
 refine .seq (.rg [] ?_)
 refine .seq (.seq (.rg [] ?_))
 refine .block (.loopK (fun k:Nat=>⟨[.sl false (pgR l),.no,.no,.ow 80 4 0 (h4_ l k).length,.i .i64 k,.no,.no,.no,.no,.no,.no,.no,.no,.no,.no,.no,.no,.no,.no,.no,.no,.no,.no,.no,.no,.no,.no,.no,.no,.no,.no,.no,.no,.no,.no,.no,.no,.no,.no,.no,.no,.no,.no,.no,.no,.no,.no,.no,.no,.no,.no,.no,.no,.no,.no,.no,.no,.no,.no,.no,.no,.no,.no,.no,.no,.no,.no,.no,.no],ae_ [(80,⟨138,4,sgR (h4_ l k)⟩)],us [80]⟩) (fun k:Nat=>k≤l.length∧(0<k→bi_ l=true)) (fun k:Nat=>l.length - k) (0) ?_ ?_ (fun k hI=>?_))
 ·exact⟨by simp,fun h=>by omega⟩
 ·refine Can.trans (Can.ownSlot 3 80 138 4 (by simp only[go_sem,seval]<;>rfl) (by simp only[go_sem,seval]) (by simp only[go_sem,seval]<;>rfl)) ?_
  refine Can.wk ?_ ?_
  ·simp[h4_]
  simp[h4_,sgR]
 refine .seq (.seq (.rg [ab_ (hi_ l hs hl)] ?_))
 refine .cB (fun h16=>?_) fun h16=>?_
 ·refine .skip (.seq (.block (.seq (.rgo [a0_ (k<l.length) (fun h=>wg_ (l.getD k Pg0).text (by have:=(hB k h).2.1;omega))] ?_ ?_ (h:=by simp only[go_sem,seval,c4_ (show k<l.length by simp at h16;exact h16.1)];rfl)))))
  ·((simp only[Bool.and_eq_true,decide_eq_true_eq]at h16;and_intros<;>omega))
  refine .seq (.rg [] ?_)
  refine .block (.loopK (fun j:Nat=>⟨[.sl false (pgR l),.no,.no,.ow 80 4 0 (qv_ l k j).length,.i .i64 k,.sl false (tkR ((az_ (l.getD k Pg0).text).getD [])),.no,.i .i64 j,.no,.no,.no,.no,.no,.no,.no,.no,.no,.no,.no,.no,.no,.no,.no,.no,.no,.no,.no,.no,.no,.no,.no,.no,.no,.no,.no,.no,.no,.no,.no,.no,.no,.no,.no,.no,.no,.no,.no,.no,.no,.no,.no,.no,.no,.no,.no,.no,.no,.no,.no,.no,.no,.no,.no,.no,.no,.no,.no,.no,.no],ae_ [(80,⟨138,4,sgR (qv_ l k j)⟩)],us [80]⟩) (fun j:Nat=>k≤l.length∧(0<k→bi_ l=true)∧j≤(l.getD k Pg0).frm.length) (fun j:Nat=>(l.getD k Pg0).frm.length - j) (0) ?_ ?_ (fun j hI=>?_))
  ·exact⟨hI.1,hI.2,Nat.zero_le _⟩
  ·refine Can.wk ?_ ?_
   ·simp[xq_]
   simp[xq_]
  refine .seq (.seq (.rgo [] ?_ ?_ (h:=by simp only[go_sem,seval,c4_ (show k<l.length by simp at h16;exact h16.1)];rfl)))
  ·((simp only[Bool.and_eq_true,decide_eq_true_eq]at h16;and_intros<;>omega))
  refine .cB (fun h35=>?_) fun h35=>?_
  ·refine .skip (.seqJ (fun u:Unit=>⟨[.sl false (pgR l),.no,.no,.ow 80 4 0 (qv_ l k (j+1)).length,.i .i64 k,.sl false (tkR ((az_ (l.getD k Pg0).text).getD [])),.no,.i .i64 j,.no,.no,.no,.no,.no,.no,.no,.no,.no,.no,.no,.no,.no,.no,.no,.no,.no,.no,.no,.no,.no,.no,.no,.no,.no,.no,.no,.no,.no,.no,.no,.no,.no,.no,.no,.no,.no,.no,.no,.no,.no,.no,.no,.no,.no,.no,.no,.no,.no,.no,.no,.no,.no,.no,.no,.no,.no,.no,.no,.no,.no],ae_ [(80,⟨138,4,sgR (qv_ l k (j+1))⟩)],us [80]⟩) (fun u:Unit=>True) ?_ (fun u hJ=>?_))
   ·refine .block (.seq (.rgo [] ?_ ?_ (h:=by simp only[go_sem,seval,c4_ (show k<l.length by simp at h16;exact h16.1),c1_ (show j<(l.getD k Pg0).frm.length by simpa using h35)];rfl)))
    ·((simp only[Bool.and_eq_true,decide_eq_true_eq]at h16 h35;have q:=bkTF h16.2 (k:=k) (by omega);have q2:=alg_ h16.2 (k:=k) (j:=j) (by omega) (by omega);and_intros<;>first|omega|(simp[c7_];done)|(simp;omega)))
    refine .cB (fun h46=>?_) fun h46=>?_
    ·refine .rgDo [] ?_ ?_ (h:=by simp only[go_sem,seval,c4_ (show k<l.length by simp at h16;exact h16.1),c1_ (show j<(l.getD k Pg0).frm.length by simpa using h35),tv_ (show j<((az_ (l.getD k Pg0).text).getD []).length by(simp only[Bool.and_eq_true,decide_eq_true_eq]at h16 h35;have:=(bkTF h16.2 (k:=k) (by omega)).1;omega))];rfl)
     ·((simp only[Bool.and_eq_true,decide_eq_true_eq]at h16 h35;have q:=bkTF h16.2 (k:=k) (by omega);have q2:=alg_ h16.2 (k:=k) (j:=j) (by omega) (by omega);and_intros<;>first|omega|(simp[c7_];done)|(simp;omega)))
     refine Exists.intro (()) ⟨?_,?_⟩
     ·trivial
     refine Can.trans (Can.sX 77 80) ?_
     refine Can.wk ?_ ?_
     ·simp only[Bool.and_eq_true,decide_eq_true_eq]at h16 h35;first|(rw[h0_ h16.2 (by omega) (by omega),if_pos (by simpa using h46)];simp;done)|(rw[h0_ h16.2 (by omega) (by omega),if_neg (by simpa using h46)];simp;done)
     simp only[Bool.and_eq_true,decide_eq_true_eq]at h16 h35;first|(rw[h0_ h16.2 (by omega) (by omega),if_pos (by simpa using h46)];simp[sgR,sgC,T0k];done)|(rw[h0_ h16.2 (by omega) (by omega),if_neg (by simpa using h46)];simp;done)
    refine .skip ?_
    refine Exists.intro (()) ⟨?_,?_⟩
    ·trivial
    refine Can.wk ?_ ?_
    ·simp only[Bool.and_eq_true,decide_eq_true_eq]at h16 h35;first|(rw[h0_ h16.2 (by omega) (by omega),if_pos (by simpa using h46)];simp;done)|(rw[h0_ h16.2 (by omega) (by omega),if_neg (by simpa using h46)];simp;done)
    simp only[Bool.and_eq_true,decide_eq_true_eq]at h16 h35;first|(rw[h0_ h16.2 (by omega) (by omega),if_pos (by simpa using h46)];simp[sgR,sgC,T0k];done)|(rw[h0_ h16.2 (by omega) (by omega),if_neg (by simpa using h46)];simp;done)
   refine .rg [] ?_
   refine⟨j+1,?_,?_,?_⟩
   ·simp only[decide_eq_true_eq]at h35;exact⟨hI.1,hI.2.1,by omega⟩
   ·simp only[decide_eq_true_eq]at h35;omega
   refine Can.wh ?_;simp only[Bool.and_eq_true,decide_eq_true_eq]at h16 h35;have:=bkTF h16.2 (k:=k) (by omega);rw[ac_ (by omega) (by omega)];(try simp)
  refine .exit (.rg [] ?_)
  refine⟨k+1,?_,?_,?_⟩
  ·simp at h16;exact⟨by omega,fun _=>h16.2⟩
  ·simp at h16;omega
  refine Can.wk ?_ ?_
  ·simp only[Bool.and_eq_true,decide_eq_true_eq,decide_eq_false_iff_not]at h16 h35;rw[ac_ (by omega) (by omega),aea_ h16.2 (by omega) (j:=j) (by omega)];(try simp)
  simp only[Bool.and_eq_true,decide_eq_true_eq,decide_eq_false_iff_not]at h16 h35;rw[aea_ h16.2 (by omega) (j:=j) (by omega)]
 refine .exit (.seq (.rg [] ?_))
 refine .fX 80 ?_
 refine .ret ⟨.inr rfl,Out.pP Tryz.results64 ?_⟩;rw[snE hI.1 hI.2 h16,List.take_of_length_le (by rw[df_];exact Nat.le_refl _)]
end
section
theorem wy_ {l:List Pg} {i:Nat} {a t:Str} {g:Bool} {f:List Int}:(pgR l).set i [.s a,.b g,.s t,.sl false (inR f)]=pgR (l.set i ⟨a,g,t,f⟩):=by simp[pgR,List.map_set,pgC]
end
section
theorem awq_ (s:Str):(tOk s&&((spl s).length:Int)==1)=ei_ s:=by
 have h:=x7_ s
 have hn:=ack_ s
 have h1:0<(spl s).length:=List.length_pos_iff.2 hn
 rw[←Bool.not_inj_iff,←h,Bool.not_and]
 congr 1
 rw[Bool.eq_iff_iff]
 simp only[Bool.not_eq_true',beq_eq_false_iff_ne,decide_eq_true_eq]
 omega
theorem ain_ (l:List Pg) (n:Nat):(pgR l).take n=pgR (l.take n):=by simp[pgR,List.map_take]
theorem ajj_ (l:List Pg) (n:Nat):(pgR l).drop n=pgR (l.drop n):=by simp[pgR,List.map_drop]
theorem azq_ {l:List Pg} {k:Nat} (h:k<l.length):pgR (l.take (k+1))=pgR (l.take k)++[pgC (l.getD k Pg0)]:=by
 rw[List.take_add_one,List.getElem?_eq_getElem h,List.getD_eq_getElem?_getD,List.getElem?_eq_getElem h];unfold pgR;rw[List.map_append];rfl
theorem abp_ (l:List Pg):(pgR l).take l.length=pgR l:=List.take_of_length_le (by rw[bl_];exact Nat.le_refl _)
theorem ah3_ (l:List Pg) (n:Nat):((pgR l).getD n []).drop 4=[]:=by
 rcases Nat.lt_or_ge n l.length with h|h
 ·rw[c4_ h];rfl
 rw[List.getD_eq_getElem?_getD,List.getElem?_eq_none (by rw[bl_];exact h)];rfl
theorem acj_ (l:List Pg) (p:Pg):pgR l++[[.s p.line,.b p.good,.s p.text,.sl false (inR p.frm)]]=pgR (l++[p]):=by simp[pgR,pgC]
theorem aj5_ (a b:List Pg):pgR a++pgR b=pgR (a++b):=by simp[pgR]
theorem yt_ (l:List Pg):∀r∈pgR l,r.length=4:=fun r hr=>by obtain⟨p,_,rfl⟩:=List.mem_map.1 hr;rfl
theorem a2i_ {L:List Pg} {f:List Int} {a t:Str} {g:Bool}:im_ 33 1 (inR f) (pgR L++[[.s a,.b g,.s t,.ow 33 1 0 f.length]])=pgR (L++[⟨a,g,t,f⟩]):=by
 have h:∀A B:List (List V),im_ 33 1 (inR f) (A++B)=im_ 33 1 (inR f) A++im_ 33 1 (inR f) B:=by
  intro A B
  induction A with
  |nil=>rfl
  |cons x A ih=>simp only[List.cons_append,im_,ih]
 rw[h,kr_ _ (a3_ L),←acj_]
 congr 1
 simp[im_,er_,frz,a2_,List.take_of_length_le]
theorem asb_ (l:List Pg) (a:Int) (w:Str):bf_ l a 1 [w]=!(!bi_ l||decide (a<0)||decide (a ≥ (l.length:Int))||!ei_ w):=by
 rw[Bool.eq_iff_iff,abu_]
 simp only[Bool.not_eq_true',Bool.or_eq_false_iff,Bool.not_eq_false',decide_eq_false_iff_not]
 exact⟨fun⟨h1,h2,h3,h4⟩=>⟨⟨⟨h1,by omega⟩,by omega⟩,h4⟩,fun⟨⟨⟨h1,h2⟩,h3⟩,h4⟩=>⟨h1,by omega,by omega,h4⟩⟩
theorem in_b (l:List Pg) (a:Int) (w:Str):bf_ l a 0 [w]=!(!bi_ l||decide (a<0)||decide (a > (l.length:Int))||!ei_ w||decide ((l.length:Int) ≥ 16)):=by
 rw[Bool.eq_iff_iff,air_]
 simp only[Bool.not_eq_true',Bool.or_eq_false_iff,Bool.not_eq_false',decide_eq_false_iff_not]
 exact⟨fun⟨h1,h2,h3,h4,h5⟩=>⟨⟨⟨⟨h1,by omega⟩,by omega⟩,h4⟩,by omega⟩,fun⟨⟨⟨⟨h1,h2⟩,h3⟩,h4⟩,h5⟩=>⟨h1,by omega,by omega,h4,by omega⟩⟩
theorem akh_ (l:List Pg) (a:Int):bf_ l a 1 []=!(!bi_ l||decide (a<0)||decide (a ≥ (l.length:Int))||decide ((l.length:Int)<2)):=by
 rw[Bool.eq_iff_iff,aak_]
 simp only[Bool.not_eq_true',Bool.or_eq_false_iff,Bool.not_eq_false',decide_eq_false_iff_not]
 exact⟨fun⟨h1,h2,h3,h4⟩=>⟨⟨⟨h1,by omega⟩,by omega⟩,by omega⟩,fun⟨⟨⟨h1,h2⟩,h3⟩,h4⟩=>⟨h1,by omega,by omega,by omega⟩⟩
attribute [local go_sem] af_ ah_ in
theorem yb_ (s:Str) (hs:s.length≤281474976710656):ACall En 113 [.s s] [] [.b (ei_ s)] []:=by
 refine aa_ [] Tryz.func113 Tryz.ntmps113 fun C=>?_
 refine .seq (.rg [] ?_)
 refine .seq (.rg [ab_ (nh_ s hs),a0_ (tOk s=true) (fun h=>pi_ s (nc_ h))] ?_)
 refine .ret ⟨.inr rfl,Out.pP Tryz.results113 ?_⟩;rw[awq_]
attribute [local go_sem] aw_ a5_ bl_ a3_ cm_ al_ a2_ a2i_ in
theorem i9_ (l:List Pg) (hs:∀p∈l,pgB p) (hl:l.length≤2000000):ACall En 114 [.sl false (pgR l)] [] [.ow 0 4 0 l.length] [⟨67,4,pgR l⟩]:=by
 have hc:∀l:List Pg,clr 200 (pgR l)=true:=fun l=>ks_ _ _ (a3_ l)
 have hi:∀l:List Int,clr 200 (inR l)=true:=fun l=>ks_ _ _ (al_ l)
 have hi2:∀l:List Int,(inR l).take l.length=inR l:=fun l=>List.take_of_length_le (by rw[a2_];exact Nat.le_refl _)
 have hr:∀l:List Pg,rnr (swL 38 80) (pgR l)=pgR l:=fun l=>b7_ _ _ (a3_ l)
 refine aa_ [80] Tryz.func114 Tryz.ntmps114 fun C=>?_
 refine .seq (.rg [] ?_ (h:=by simp only[go_sem,seval,hc,hi,hi2,hr];rfl))
 refine .seq (.rg [] ?_ (h:=by simp only[go_sem,seval,hc,hi,hi2,hr];rfl))
 refine .seq (.seq (.rg [] ?_ (h:=by simp only[go_sem,seval,hc,hi,hi2,hr];rfl)))
 refine .block (.loopK (fun k:Nat=>⟨[.sl false (pgR l),.no,.no,.ow 80 4 0 k,.i .i64 k,.no,.no,.no,.no,.no,.no,.no,.no,.no,.no,.no,.no,.no,.no,.no,.no,.no,.no,.no,.no,.no,.no,.no,.no,.no],ae_ [(80,⟨67,4,pgR (l.take k)⟩)],us [80]⟩) (fun k:Nat=>k≤l.length) (fun k:Nat=>l.length - k) (0) ?_ ?_ (fun k hI=>?_))
 ·simp
 ·refine Can.trans (Can.ownSlot 3 80 67 4 (by simp only[go_sem,seval,hc,hi,hi2,hr]<;>rfl) (by simp only[go_sem,seval,hc,hi,hi2,hr]) (by simp only[go_sem,seval,hc,hi,hi2,hr]<;>rfl)) ?_
  exact Can.wl (h:=by simp only[go_sem,seval,hc,hi,hi2,hr,av_,leV,as_,au_,V.inn,us,true_or,or_true]<;>((try simp))) (hi:=by simp only[go_sem,seval,hc,hi,hi2,hr,av_,leV,as_,au_,V.inn,us,true_or,or_true]) (hL:=by simp only[go_sem,seval,hc,hi,hi2,hr,av_,leV,as_,au_,V.inn,us,true_or,or_true]<;>((try simp[pgR])))
 refine .seq (.seq (.rg [] ?_ (h:=by simp only[go_sem,seval,hc,hi,hi2,hr];rfl)))
 refine .cB (fun h10=>?_) (fun h10=>?_) (hc:=by simp only[go_sem,seval,hc,hi,hi2,hr];rfl) (hp:=by simp only[go_sem,seval,hc,hi,hi2,hr])
 ·refine .skip (.seq (.block (.seq (.rgo [] ?_ ?_ (h:=by simp only[go_sem,seval,hc,hi,hi2,hr,c4_ (show k<l.length by simpa using h10)];rfl)))))
  ·((simp only[decide_eq_true_eq]at h10;have q:=(hs _ (ag_ (d:=Pg0) (show k<l.length by omega))).2.2;and_intros<;>first|omega|(simp;done)|(simp;omega)|(intro r hr;obtain⟨x,_,rfl⟩:=List.mem_map.1 hr;rfl)))
  refine .seq (.rgo [] ?_ ?_ (h:=by simp only[go_sem,seval,hc,hi,hi2,hr,c4_ (show k<l.length by simpa using h10)];rfl))
  ·((simp only[decide_eq_true_eq]at h10;have q:=(hs _ (ag_ (d:=Pg0) (show k<l.length by omega))).2.2;and_intros<;>first|omega|(simp;done)|(simp;omega)|(intro r hr;obtain⟨x,_,rfl⟩:=List.mem_map.1 hr;rfl)))
  refine .rgo [] ?_ ?_ (h:=by simp only[go_sem,seval,hc,hi,hi2,hr];rfl)
  ·((simp only[decide_eq_true_eq]at h10;have q:=(hs _ (ag_ (d:=Pg0) (show k<l.length by omega))).2.2;and_intros<;>first|omega|(simp;done)|(simp;omega)|(intro r hr;obtain⟨x,_,rfl⟩:=List.mem_map.1 hr;rfl)))
  refine .rg [] ?_ (h:=by simp only[go_sem,seval,hc,hi,hi2,hr];rfl)
  refine⟨k+1,?_,?_,?_⟩
  ·simp at h10;omega
  ·simp at h10;omega
  refine Can.trans (Can.frz 33 (by simp only[go_sem,seval,hc,hi,hi2,hr]<;>rfl) (by simp only[go_sem,seval,hc,hi,hi2,hr]) (by simp only[go_sem,seval,hc,hi,hi2,hr]<;>rfl) (by simp only[go_sem,seval,hc,hi,hi2,hr]<;>rfl)) ?_
  refine Can.trans (Can.swap 38 80 (by decide) (by decide) (by decide) (by decide) (by simp only[go_sem,seval,hc,hi,hi2,hr,V.cl]) (by simp only[go_sem,seval,hc,hi,hi2,hr,V.cl]) (by simp only[go_sem,seval,hc,hi,hi2,hr,dv_,sw,swM,rnB]<;>rfl) (by simp only[go_sem,seval,hc,hi,hi2,hr,dv_,sw,swM,rnB]<;>rfl) (by simp only[go_sem,seval,hc,hi,hi2,hr,dv_,sw,swM,rnB]<;>rfl)) ?_
  exact Can.wl (h:=by simp only[go_sem,seval,hc,hi,hi2,hr,av_,leV,as_,au_,V.inn,us,true_or,or_true]<;>(rw[ac_ (by simp at h10;omega) (by simp at h10;omega)];(try simp))) (hi:=by simp only[go_sem,seval,hc,hi,hi2,hr,av_,leV,as_,au_,V.inn,us,true_or,or_true]) (hL:=by simp only[go_sem,seval,hc,hi,hi2,hr,av_,leV,as_,au_,V.inn,us,true_or,or_true]<;>(simp only[decide_eq_true_eq]at h10;rw[azq_ (by omega)];simp[pgR]))
 refine .exit (.seq (.rg [] ?_ (h:=by simp only[go_sem,seval,hc,hi,hi2,hr];rfl)))
 refine .ret ⟨.inr rfl,?_⟩
 exact Out.mm (by simp only[Tryz.results114];rfl) (by simp only[ba_,rns,rn,go_sem,seval,hc,hi,hi2,hr]<;>(simp only[decide_eq_false_iff_not]at h10;rw[show k=l.length by omega])) (by simp only[aw_,go_sem,seval,hc,hi,hi2,hr]<;>(simp only[decide_eq_false_iff_not]at h10;rw[List.take_of_length_le (show l.length≤k by omega)])) (h1:=by simp only[a1_,bn_,go_sem,seval,hc,hi,hi2,hr]) (h6:=by simp only[go_sem,seval,hc,hi,hi2,hr]) (h7:=by simp only[a5_,go_sem,seval,hc,hi,hi2,hr])
theorem chJ {n:Nat} {x v:List Pg} (hn:n=x.length) (h:x=v):leV (peel (if n≤x.length then V.sl false (pgR (x.take n))else V.no)) (V.sl false (pgR v)):=by
 subst hn h
 rw[if_pos (Nat.le_refl _),List.take_length]
 exact⟨fun h=>h,ad_ _⟩
attribute [local go_sem] aw_ a5_ bl_ a3_ cm_ al_ abp_ ain_ ajj_ ah3_ acj_ aj5_ wy_ Int.toNat_natCast List.take_length in
theorem add_ (l:List Pg) (a:Int) (w:Str) (hs:∀p∈l,pgB p) (hl:l.length≤2000000) (ha : -9223372036854775808≤a) (ha2:a<9223372036854775808) (hw:w.length≤2000000):ACall En 58 [.sl false (pgR l),.i .i64 a,.s w] [] [.sl false (pgR (chg l a 1 [w])),.b (bf_ l a 1 [w])] []:=by
 refine aa_ [] Tryz.func58 Tryz.ntmps58 fun C=>?_
 refine .seq (.rg [] ?_)
 refine .seq (.seq (.rg [ab_ (hi_ l hs (by omega)),ab_ (yb_ w (by omega))] ?_))
 refine .cB (fun h26=>?_) fun h26=>?_
 ·refine .seq (.rg [] ?_)
  refine .ret ⟨.inr rfl,Out.pQ Tryz.results58 ?_⟩;have e:bf_ l a 1 [w]=false:=(by rw[asb_,h26];rfl);rw[aat_ e,e];exact⟨ad_ _,rfl⟩
 refine .skip (.seq (.rg [at_ [] [39] (i9_ l hs hl)] ?_))
 refine .seq (.rgo [ab_ (ne_ w (by omega))] ?_ ?_)
 ·((obtain⟨q1,q2,q3,q4⟩:=abu_.1 (show bf_ l a 1 [w]=true by rw[asb_,h26];rfl);and_intros<;>omega))
 refine .seq (.rg [] ?_)
 refine .fX 39 ?_
 refine .ret ⟨.inr rfl,Out.pQ Tryz.results58 ?_⟩;have e:bf_ l a 1 [w]=true:=(by rw[asb_,h26];rfl);exact⟨chJ (by simp) (ayg_ e).symm,e.symm⟩
attribute [local go_sem] aw_ a5_ bl_ a3_ cm_ al_ abp_ ain_ ajj_ ah3_ acj_ aj5_ wy_ Int.toNat_natCast List.take_length in
theorem u2_ (l:List Pg) (a:Int) (w:Str) (hs:∀p∈l,pgB p) (hl:l.length≤2000000) (ha : -9223372036854775808≤a) (ha2:a<9223372036854775808) (hw:w.length≤2000000):ACall En 56 [.sl false (pgR l),.i .i64 a,.s w] [] [.sl false (pgR (chg l a 0 [w])),.b (bf_ l a 0 [w])] []:=by
 have hB1:∀p∈l.take a.toNat,pgB p:=fun p hp=>hs p (List.mem_of_mem_take hp)
 have hB2:∀p∈l.drop a.toNat,pgB p:=fun p hp=>hs p (List.mem_of_mem_drop hp)
 refine aa_ [] Tryz.func56 Tryz.ntmps56 fun C=>?_
 refine .seq (.rg [] ?_)
 refine .seq (.seq (.rg [ab_ (hi_ l hs (by omega)),ab_ (yb_ w (by omega))] ?_))
 refine .cB (fun h31=>?_) fun h31=>?_
 ·refine .seq (.rg [] ?_)
  refine .ret ⟨.inr rfl,Out.pQ Tryz.results56 ?_⟩;have e:bf_ l a 0 [w]=false:=(by rw[in_b,h31];rfl);rw[aat_ e,e];exact⟨ad_ _,rfl⟩
 refine .skip (.seq (.rgo [at_ [] [46] (i9_ (l.take a.toNat) hB1 (by simp;omega)),ab_ (ne_ w (by omega))] ?_ ?_))
 ·((obtain⟨q1,q2,q3,q4,q5⟩:=air_.1 (show bf_ l a 0 [w]=true by rw[in_b,h31];rfl);and_intros<;>first|omega|(simp;done)|exact fun h=>absurd rfl h|exact .inr (yt_ l)|exact yt_ _|(simp only[List.length_take,List.length_drop];omega)))
 refine .seq (.rgo [at_ [] [55] (i9_ (l.drop a.toNat) hB2 (by simp;omega))] ?_ ?_)
 ·((obtain⟨q1,q2,q3,q4,q5⟩:=air_.1 (show bf_ l a 0 [w]=true by rw[in_b,h31];rfl);and_intros<;>first|omega|(simp;done)|exact fun h=>absurd rfl h|exact .inr (yt_ l)|exact yt_ _|(simp only[List.length_take,List.length_drop];omega)))
 refine .fX 56 ?_
 refine .ret ⟨.inr rfl,Out.pQ Tryz.results56 ?_⟩;have e:bf_ l a 0 [w]=true:=(by rw[in_b,h31];rfl);exact⟨chJ (by simp only[List.length_append,List.length_singleton]) (by rw[a33_ e];simp),e.symm⟩
attribute [local go_sem] aw_ a5_ bl_ a3_ cm_ al_ abp_ ain_ ajj_ ah3_ acj_ aj5_ wy_ Int.toNat_natCast List.take_length in
theorem ago_ (l:List Pg) (a:Int) (hs:∀p∈l,pgB p) (hl:l.length≤2000000) (ha : -9223372036854775808≤a) (ha2:a<9223372036854775808):ACall En 59 [.sl false (pgR l),.i .i64 a] [] [.sl false (pgR (chg l a 1 [])),.b (bf_ l a 1 [])] []:=by
 have hB1:∀p∈l.take a.toNat,pgB p:=fun p hp=>hs p (List.mem_of_mem_take hp)
 have hB2:∀p∈l.drop (a.toNat+1),pgB p:=fun p hp=>hs p (List.mem_of_mem_drop hp)
 have hw:bf_ l a 1 []=true→IntKind.i64.wrap (a+1)=a+1:=fun h=>by obtain⟨q1,q2,q3,q4⟩:=aak_.1 h;rw[ac_ (by omega) (by omega)]
 refine aa_ [] Tryz.func59 Tryz.ntmps59 fun C=>?_
 refine .seq (.rg [] ?_)
 refine .seq (.seq (.rg [ab_ (hi_ l hs (by omega))] ?_))
 refine .cB (fun h23=>?_) fun h23=>?_
 ·refine .seq (.rg [] ?_)
  refine .ret ⟨.inr rfl,Out.pQ Tryz.results59 ?_⟩;have e:bf_ l a 1 []=false:=(by rw[akh_,h23];rfl);rw[aat_ e,e];exact⟨ad_ _,rfl⟩
 refine .skip (.seq (.rgDo [at_ [] [38] (i9_ (l.take a.toNat) hB1 (by simp;omega)),at_ [] [43] (i9_ (l.drop (a.toNat+1)) hB2 (by simp;omega))] ?_ ?_ (h:=by simp only[go_sem,seval,hw (show bf_ l a 1 []=true by rw[akh_,h23];rfl)];rfl)))
 ·((obtain⟨q1,q2,q3,q4⟩:=aak_.1 (show bf_ l a 1 []=true by rw[akh_,h23];rfl);have q5:(a+1).toNat=a.toNat+1:=(by omega);and_intros<;>first|omega|(simp;done)|exact fun h=>absurd rfl h|exact .inr (yt_ l)|exact yt_ _|(rw[q5];exact ad_ _)|(simp only[List.length_take,List.length_drop];omega)))
 refine .fX 44 ?_
 refine .ret ⟨.inr rfl,Out.pQ Tryz.results59 ?_⟩;have e:bf_ l a 1 []=true:=(by rw[akh_,h23];rfl);exact⟨chJ (by simp only[List.length_append]) (a1b_ e).symm,e.symm⟩
end
section
def rdl (ls:List Str):List Bl:=ls.map fun w=>(el_ w).getD B0
theorem j0_ (ls:List Str):(rdl ls).length=ls.length:=by simp[rdl]
theorem als_ {ls:List Str} {k:Nat} (h:k<ls.length):(rdl ls).getD k B0=(el_ (ls.getD k [])).getD B0:=by
 simp[rdl,List.getD_eq_getElem?_getD,List.getElem?_eq_getElem h]
theorem are_ (ls:List Str):allB (rdl ls)=true:=by
 refine List.all_eq_true.2 fun b hb=>?_
 obtain⟨w,_,rfl⟩:=List.mem_map.1 hb
 obtain⟨w1,w2⟩:=mz_ w
 cases h:el_ w with
 |none=>exact a10_
 |some b=>
  have:b=gc_ (be_ w):=by
   by_cases hc:(az_ w).isSome=true∧bok (gc_ (be_ w))=true∧btxt (gc_ (be_ w))=w
   ·rw[um_ hc.1 hc.2.1 hc.2.2]at h;exact(Option.some.inj h).symm
   rw[vi_ hc]at h;cases h
  rw[this];exact aly_ w1
theorem ad4_ {s:Str} {k:Nat} (hk:k<(bo_ s).length) (h:(el_ ((bo_ s).getD k [])).isSome=false):hm_ s=([],false):=by
 unfold hm_
 rw[if_neg]
 intro q
 have:=List.all_eq_true.1 q _ (ag_ (d:=[]) hk)
 rw[h]at this;cases this
theorem yc_ {s:Str} (h:(bo_ s).all (fun w=>(el_ w).isSome)=true):hm_ s=jd_ (rdl (bo_ s)):=by unfold hm_;rw[if_pos h];rfl
theorem adt_ {l:List Bl} {k:Nat} (hk:k<l.length):bLR (l.take (k+1))=bLR (l.take k)++[bC (l.getD k B0)]:=by
 rw[List.take_add_one,List.getElem?_eq_getElem hk,axy_,List.getD_eq_getElem?_getD,List.getElem?_eq_getElem hk];rfl
theorem afl_ {α:Type} {p:α→Bool} {l:List α} {k:Nat} {d:α} (h:k<l.length):(l.take (k+1)).all p=((l.take k).all p&&p (l.getD k d)):=by
 rw[List.take_add_one,List.getElem?_eq_getElem h,List.all_append,List.getD_eq_getElem?_getD,List.getElem?_eq_getElem h];simp
attribute [local go_sem] af_ ah_ i8_ cp_ al_ in
theorem aha_ (s:Str) (hs:s.length≤281474976710656):ACall En 89 [.s s] [] [.ow 0 1 0 (hm_ s).1.length,.b (hm_ s).2] [⟨3,1,inR (hm_ s).1⟩]:=by
 have hL:=e5_ s
 have hM:=hb_ s
 have hG:=@yc_ s
 have hB:=@ad4_ s
 generalize hT:bo_ s=ls at *
 refine aa_ [33] Tryz.func89 Tryz.ntmps89 fun C=>?_
 refine .seq (.rg [] ?_)
 refine .seq (.rg [] ?_)
 refine .seqJ (fun u:Unit=>⟨[.no,.no,.no,.no,.sl false (bLR (rdl ls)),.no,.no,.no,.no,.no,.no,.no,.no,.no,.no,.no,.no,.no,.no,.no,.no,.no,.no,.no,.no,.no,.no,.no,.no,.no,.no,.no],ae_ [],us []⟩) (fun u:Unit=>ls.all (fun w=>(el_ w).isSome)=true) ?_ (fun u hJ=>?_)
 ·refine .seq (.rg [ab_ (show ACall En 34 [.s s] [] [.sl false (ai_ ls)] []from hT ▸ li_ s hs)] ?_)
  refine .block (.loopK (fun k:Nat=>⟨[.no,.no,.no,.no,.ow 20 10 0 k,.no,.no,.no,.no,.no,.sl false (ai_ ls),.i .i64 ls.length,.i .i64 k,.no,.no,.no,.no,.no,.no,.no,.no,.no,.no,.no,.no,.no,.no,.no,.no,.no,.no,.no],ae_ [(20,⟨147,10,bLR ((rdl ls).take k)⟩)],us [20]⟩) (fun k:Nat=>k≤ls.length∧(ls.take k).all (fun w=>(el_ w).isSome)=true) (fun k:Nat=>ls.length - k) (0) ?_ ?_ (fun k hI=>?_))
  ·exact⟨by simp,by simp⟩
  ·refine Can.trans (Can.ownSlot 4 20 147 10 (by simp only[go_sem,seval]<;>rfl) (by simp only[go_sem,seval]) (by simp only[go_sem,seval]<;>rfl)) ?_
   refine Can.wk ?_ ?_
   ·trivial
   simp[bLR]
  refine .seq (.rg [] ?_)
  refine .seq (.cB (fun h13=>?_) fun h13=>?_)
  ·refine .skip (.seq (.block (.seq (.rgo [] ?_ ?_ (h:=by simp only[go_sem,seval,an_ (show k<ls.length by simpa using h13)];rfl)))))
   ·((simpa using h13))
   refine .seq (.rgo [a0_ (k<ls.length) (fun h=>ad9_ (ls.getD k []) (by have:=hM _ (ag_ (d:=[]) h);omega))] ?_ ?_)
   ·((simpa using h13))
   refine .seq (.seq (.rg [] ?_))
   refine .cB (fun h22=>?_) fun h22=>?_
   ·refine .seq (.rg [] ?_)
    refine .can (Can.ownSlot 2 33 3 1 (by simp only[go_sem,seval]<;>rfl) (by simp only[go_sem,seval]) (by simp only[go_sem,seval]<;>rfl)) ?_
    refine .ret ⟨.inr rfl,Out.mP Tryz.results89 ?_ ?_⟩
    ·rw[hB (by simpa using h13) (by simpa using h22)];simp
    rw[hB (by simpa using h13) (by simpa using h22)];simp[inR]
   refine .skip (.rgo [] ?_ ?_)
   ·((simp at h13;simp[js_,j0_];omega))
   refine .rg [] ?_
   refine⟨k+1,?_,?_,?_⟩
   ·simp at h13;exact⟨by omega,by rw[afl_ (d:=[]) h13,hI.2];simpa using h22⟩
   ·simp at h13;omega
   refine Can.trans (Can.sX 36 20) ?_
   refine Can.wk ?_ ?_
   ·rw[ac_ (by simp at h13;omega) (by simp at h13;omega)];simp
   simp at h13;rw[adt_ (by rw[j0_];exact h13),als_ h13];simp[cp_]
  refine .exit ?_
  refine Exists.intro (()) ⟨?_,?_⟩
  ·simp at h13;have h2:=hI.2;rw[List.take_of_length_le (by omega)]at h2;exact h2
  refine Can.trans (Can.frz 20 (by simp only[go_sem,seval]<;>rfl) (by simp only[go_sem,seval]) (by simp only[go_sem,seval]<;>rfl) (by simp only[go_sem,seval]<;>rfl)) ?_
  refine Can.wh ?_;simp at h13;(obtain rfl:k=ls.length:=(by omega));simp[List.take_of_length_le,j0_,js_,leV,ad_]
 refine .seq (.rg [at_ [] [33] (ac6_ (rdl ls) (are_ ls) (by rw[j0_];omega))] ?_)
 refine .ret ⟨.inr rfl,Out.mP Tryz.results89 ?_ ?_⟩
 ·rw[hG hJ]
 rw[hG hJ];(try simp[b7_,al_])
theorem aj0_ (s:Str) (hs:s.length≤281474976710656):ACall En 89 [.s s] [] [.sl false (inR (hm_ s).1),.b (hm_ s).2] []:=
 ACall.frz1 (aha_ s hs) (by simp[er_,frz,a2_,List.take_of_length_le])
end
section
attribute [local go_sem] af_ ah_ i8_ cp_ al_ in
theorem agb_ (s:Str) (hs:s.length≤281474976710656):ACall En 68 [.s s] [] [.ow 0 1 0 (hm_ s).1.length,.b (hm_ s).2] [⟨3,1,inR (hm_ s).1⟩]:=by
 have hL:=e5_ s
 have hM:=hb_ s
 have hG:=@yc_ s
 have hB:=@ad4_ s
 generalize hT:bo_ s=ls at *
 refine aa_ [33] Tryz.func68 Tryz.ntmps68 fun C=>?_
 refine .seq (.rg [] ?_)
 refine .seq (.rg [ab_ (show ACall En 30 [.s s] [] [.sl false (ai_ ls)] []from hT ▸ k9_ s hs)] ?_)
 refine .seq (.rg [] ?_)
 refine .seqJ (fun u:Unit=>⟨[.no,.no,.no,.no,.no,.sl false (bLR (rdl ls)),.no,.no,.no,.no,.no,.no,.no,.no,.no,.no,.no,.no,.no,.no,.no,.no,.no,.no,.no,.no,.no,.no,.no,.no,.no,.no,.no,.no,.no,.no,.no],ae_ [],us []⟩) (fun u:Unit=>ls.all (fun w=>(el_ w).isSome)=true) ?_ (fun u hJ=>?_)
 ·refine .seq (.rg [] ?_)
  refine .block (.loopK (fun k:Nat=>⟨[.no,.no,.no,.no,.sl false (ai_ ls),.ow 20 10 0 k,.i .i64 k,.no,.no,.no,.no,.no,.no,.no,.no,.no,.no,.no,.no,.no,.no,.no,.no,.no,.no,.no,.no,.no,.no,.no,.no,.no,.no,.no,.no,.no,.no],ae_ [(20,⟨147,10,bLR ((rdl ls).take k)⟩)],us [20]⟩) (fun k:Nat=>k≤ls.length∧(ls.take k).all (fun w=>(el_ w).isSome)=true) (fun k:Nat=>ls.length - k) (0) ?_ ?_ (fun k hI=>?_))
  ·exact⟨by simp,by simp⟩
  ·refine Can.trans (Can.ownSlot 5 20 147 10 (by simp only[go_sem,seval]<;>rfl) (by simp only[go_sem,seval]) (by simp only[go_sem,seval]<;>rfl)) ?_
   refine Can.wk ?_ ?_
   ·trivial
   simp[bLR]
  refine .seq (.seq (.rg [] ?_))
  refine .cB (fun h15=>?_) fun h15=>?_
  ·refine .skip (.seq (.block (.seq (.rgo [a0_ (k<ls.length) (fun h=>ac3_ (ls.getD k []) (by have:=hM _ (ag_ (d:=[]) h);omega))] ?_ ?_ (h:=by simp only[go_sem,seval,an_ (show k<ls.length by simpa using h15)];rfl)))))
   ·((simpa using h15))
   refine .seq (.seq (.rg [] ?_))
   refine .cB (fun h27=>?_) fun h27=>?_
   ·refine .seq (.rg [] ?_)
    refine .can (Can.ownSlot 2 33 3 1 (by simp only[go_sem,seval]<;>rfl) (by simp only[go_sem,seval]) (by simp only[go_sem,seval]<;>rfl)) ?_
    refine .ret ⟨.inr rfl,Out.mP Tryz.results68 ?_ ?_⟩
    ·rw[hB (by simpa using h15) (by simpa using h27)];simp
    rw[hB (by simpa using h15) (by simpa using h27)];simp[inR]
   refine .skip (.rgo [] ?_ ?_)
   ·((simp at h15;simp[js_,j0_];omega))
   refine .rg [] ?_
   refine⟨k+1,?_,?_,?_⟩
   ·simp at h15;exact⟨by omega,by rw[afl_ (d:=[]) h15,hI.2];simpa using h27⟩
   ·simp at h15;omega
   refine Can.trans (Can.sX 42 20) ?_
   refine Can.wk ?_ ?_
   ·rw[ac_ (by simp at h15;omega) (by simp at h15;omega)];(try simp)
   simp at h15;rw[adt_ (by rw[j0_];exact h15),als_ h15];simp[cp_]
  refine .exit ?_
  refine Exists.intro (()) ⟨?_,?_⟩
  ·simp at h15;have h2:=hI.2;rw[List.take_of_length_le (by omega)]at h2;exact h2
  refine Can.trans (Can.frz 20 (by simp only[go_sem,seval]<;>rfl) (by simp only[go_sem,seval]) (by simp only[go_sem,seval]<;>rfl) (by simp only[go_sem,seval]<;>rfl)) ?_
  refine Can.wh ?_;simp at h15;(obtain rfl:k=ls.length:=(by omega));simp[List.take_of_length_le,j0_,js_,leV,ad_]
 refine .seq (.rg [at_ [] [33] (afk_ (rdl ls) (are_ ls) (by rw[j0_];omega))] ?_)
 refine .ret ⟨.inr rfl,Out.mP Tryz.results68 ?_ ?_⟩
 ·rw[hG hJ]
 rw[hG hJ];(try simp[b7_,al_])
theorem aio_ (s:Str) (hs:s.length≤281474976710656):ACall En 68 [.s s] [] [.sl false (inR (hm_ s).1),.b (hm_ s).2] []:=
 ACall.frz1 (agb_ s hs) (by simp[er_,frz,a2_,List.take_of_length_le])
end
section
def zt_ (b:List Pg) (w:Str):Str:=if prR (bc_ b)then(if w=[116,121,112,101]then jt_ [g0_ (prL (bc_ b))]else ou_ (f5_ (prL (bc_ b))))else [98,97,100,10]
def ib_ (w:Str):Prop:=w=[97,100,100]∨w=[112,117,116]∨w=[105,110]∨w=[111,117,116]
instance (w:Str):Decidable (ib_ w):=inferInstanceAs (Decidable (_∨_))
def g4_ (w:List Str):Bool:=decide (1<w.length)&&a8_ (w.getD 1 [])
def pr_ (w:List Str):List Int:=if g4_ w then [(am_ (w.getD 1 []):Int)]else []
theorem ur_ {w:List Str} (h:g4_ w=true):pr_ w=[(am_ (w.getD 1 []):Int)]:=by unfold pr_;rw[if_pos h]
def lm_ (b:List Pg) (w:List Str):List Pg × Bool:=
 if w.getD 0 []=[97,100,100]then(chg b b.length 0 [ap_ (w.drop 1)],bf_ b b.length 0 [ap_ (w.drop 1)])
 else if w.getD 0 []=[112,117,116]then(chg b (am_ (w.getD 1 [])) 1 [ap_ (w.drop 2)],bf_ b (am_ (w.getD 1 [])) 1 [ap_ (w.drop 2)])
 else if w.getD 0 []=[105,110]then(chg b (am_ (w.getD 1 [])) 0 [ap_ (w.drop 2)],bf_ b (am_ (w.getD 1 [])) 0 [ap_ (w.drop 2)])
 else(chg b (am_ (w.getD 1 [])) 1 [],bf_ b (am_ (w.getD 1 [])) 1 [])
theorem ah5_ (b:List Pg) {w:Str} (h:ib_ w):dj_ b w=isWhat:=by
 rcases h with rfl|rfl|rfl|rfl<;>rfl
theorem y4_ {b:List Pg} {w:List Str} (h0:0<w.length) (hk:ib_ (w.getD 0 [])) (ha:w.getD 0 []≠[97,100,100]) (h:g4_ w=false∨w.getD 0 []=[111,117,116]∧w.length≠2):bw_ b w=(b,isWhat):=by
 unfold bw_
 rw[if_neg ha]
 by_cases h1:w.length=1
 ·rw[if_pos h1,ah5_ b hk]
 rw[if_neg h1]
 by_cases h2:a8_ (w.getD 1 [])=false
 ·rw[if_pos h2]
 rw[if_neg h2]
 have h3:g4_ w=true:=by unfold g4_;rw[decide_eq_true (by omega)];simpa using h2
 rcases h with h|⟨h4,h5⟩
 ·rw[h3]at h;cases h
 rw[h4,if_neg (by decide),if_neg (by decide),if_neg (fun q=>h5 q.2),if_neg (by simp)]
theorem xv_ {b:List Pg} {w:List Str} (hk:ib_ (w.getD 0 [])) (h:w.getD 0 []=[97,100,100]∨g4_ w=true∧(w.getD 0 []=[112,117,116]∨w.getD 0 []=[105,110]∨w.length=2)):bw_ b w=gg_ b (lm_ b w).1 (lm_ b w).2:=by
 unfold bw_ lm_
 by_cases ha:w.getD 0 []=[97,100,100]
 ·rw[if_pos ha,if_pos ha]
 rw[if_neg ha,if_neg ha]
 obtain⟨h1,h2⟩:=h.resolve_left ha
 unfold g4_ at h1
 simp only[Bool.and_eq_true,decide_eq_true_eq]at h1
 rw[if_neg (by omega),if_neg (by rw[h1.2];simp)]
 rcases hk with hk|hk|hk|hk
 ·exact absurd hk ha
 ·rw[hk];rfl
 ·rw[hk];rfl
 rw[hk]at h2
 have:w.length=2:=by
  rcases h2 with h2|h2|h2
  ·exact absurd h2 (by decide)
  ·exact absurd h2 (by decide)
  exact h2
 rw[hk,if_neg (by decide),if_neg (by decide),if_pos ⟨rfl,this⟩,if_neg (by decide),if_neg (by decide)]
theorem aad_ (l:List Sg):(mapT l).length≤60000:=by
 unfold mapT
 split
 ·rename_i h
  have:=ld_ h l.length (Nat.le_refl _)
  have:=aqf_ h
  omega
 simp
def ol_ (w:List Str):Prop:=w.length=3∧a8_ (w.getD 1 [])=true∧a8_ (w.getD 2 [])=true∧(w.getD 0 []=[108,111,111,107]∨w.getD 0 []=[98,97,99,107])
theorem ug_ {b:List Pg} {w:List Str} (h:ol_ w):bw_ b w=(b,h5_ b (w.getD 0 []) (am_ (w.getD 1 [])) (am_ (w.getD 2 []))):=by
 obtain⟨h1,h2,h3,h4⟩:=h
 unfold bw_
 have q:w.getD 0 []≠[97,100,100]∧w.getD 0 []≠[105,110]∧w.getD 0 []≠[112,117,116]∧w.getD 0 []≠[111,117,116]:=by
  rcases h4 with h|h<;>rw[h]<;>decide
 rw[if_neg q.1,if_neg (by omega),if_neg (by rw[h2];simp),if_neg q.2.1,if_neg q.2.2.1,if_neg (fun x=>q.2.2.2 x.1),if_pos ⟨h4,h1,h3⟩]
theorem gr_ {b:List Pg} {w:List Str} (hk:¬ib_ (w.getD 0 [])) (h:¬ol_ w):bw_ b w=(b,if w.length=1 then dj_ b (w.getD 0 [])else isWhat):=by
 unfold ib_ at hk
 simp only[not_or]at hk
 unfold bw_
 rw[if_neg hk.1]
 by_cases h1:w.length=1
 ·rw[if_pos h1,if_pos h1]
 rw[if_neg h1,if_neg h1]
 by_cases h2:a8_ (w.getD 1 [])=false
 ·rw[if_pos h2]
 rw[if_neg h2,if_neg hk.2.2.1,if_neg hk.2.1,if_neg (fun x=>hk.2.2.2 x.1),if_neg (fun x=>h ⟨x.2.1,by simpa using h2,x.2.2,x.1⟩)]
end
end Go.Proofs.YthjccajoadjicaaGreatDoor
