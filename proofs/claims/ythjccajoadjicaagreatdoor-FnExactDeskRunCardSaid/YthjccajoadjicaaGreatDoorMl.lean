/- The text of a map, whence and where to: the reference's. Conditions: none. -/
import Derived.Test.YthjccajoadjicaaGreatDoorMk
import Derived.Lib.SmallJoins
import Derived.Lib.SplitLaws
import Derived.Lib.IndexAny
set_option linter.unusedVariables false
set_option linter.unusedSimpArgs false
set_option maxRecDepth 100000
set_option maxHeartbeats 8000000
namespace Go.Proofs.YthjccajoadjicaaGreatDoor
section
attribute [local go_sem] df_ cf_ in
theorem aiz_ (l:List Sg) (hl:l.length≤1000000000000):ACall En 63 [.sl false (sgR l)] [] [.s (mapT l)] []:=by
 refine aa_ [] Tryz.func63 Tryz.ntmps63 fun C=>?_
 refine .seq (.rg [] ?_)
 refine .seq (.rg [] ?_)
 refine .seq (.rg [] ?_)
 refine .seq (.rg [] ?_)
 refine .seq (.rg [] ?_)
 refine .seq (.seq (.rg [] ?_))
 refine .block (.loopK (fun k:Nat=>⟨[.sl false (sgR l),.no,.no,.s (ij_ l k),.i .i64 (ahd l k).1,.i .i64 (ahd l k).2.1,.pt 16 2 0 0,.i .i64 k,.no,.no,.no,.no,.no,.no,.no,.no,.no,.no,.no,.no,.no,.no,.no,.no,.no,.no,.no,.no,.no,.no,.no,.no,.no,.no,.no,.no,.no,.no,.no,.no,.no,.no,.no,.no,.no,.no,.no,.no,.no,.no,.no,.no,.no,.no,.no,.no,.no,.no,.no,.no],ae_ [(16,⟨80,2,[[.i .i64 (ahd l k).2.2.1,.i .i64 (ahd l k).2.2.2]]⟩)],us [16]⟩) (fun k:Nat=>k≤l.length∧(0<k→h2_ l=true)) (fun k:Nat=>l.length - k) (0) ?_ ?_ (fun k hI=>?_))
 ·exact⟨Nat.zero_le _,fun h=>absurd h (by omega)⟩
 ·refine Can.wk ?_ ?_
  ·exact⟨rfl,rfl,rfl⟩
  rfl
 refine .seq (.seq (.rg [ab_ (q4_ l hl)] ?_))
 refine .cB (fun h17=>?_) fun h17=>?_
 ·refine .skip (.seq (.block (.seq (.rgo [] ?_ ?_ (h:=by simp only[go_sem,seval,h6_ (show k<l.length by simp at h17;exact h17.1)];rfl)))))
  ·simp at h17;simp;omega
  refine .seq (.block (.loopK (fun m:Nat=>⟨[.sl false (sgR l),.no,.no,.s (ij_ l k++List.replicate m 61),.i .i64 ((ahd l k).1+m),.i .i64 (if m=0 then(ahd l k).2.1 else 0),.pt 16 2 0 0,.i .i64 k,.pt 18 4 0 0,.no,.no,.no,.no,.no,.no,.no,.no,.no,.no,.no,.no,.no,.no,.no,.no,.no,.no,.no,.no,.no,.no,.no,.no,.no,.no,.no,.no,.no,.no,.no,.no,.no,.no,.no,.no,.no,.no,.no,.no,.no,.no,.no,.no,.no,.no,.no,.no,.no,.no,.no],ae_ [(16,⟨80,2,[[.i .i64 (ahd l k).2.2.1,.i .i64 (ahd l k).2.2.2]]⟩),(18,⟨138,4,[[.i .i64 (l.getD k G0).1,.i .i64 (l.getD k G0).2.1,.i .i64 (l.getD k G0).2.2.1,.i .i64 (l.getD k G0).2.2.2]]⟩)],us [16,18]⟩) (fun m:Nat=>((m:Int)≤(l.getD k G0).1 - (ahd l k).1)) (fun m:Nat=>((l.getD k G0).1 - (ahd l k).1).toNat - m) (0) ?_ ?_ (fun m hI=>?_)))
  ·simp at h17;have:=mm_ h17.2 h17.1;omega
  ·refine Can.wk ?_ ?_
   ·simp
   trivial
  refine .seq (.seq (.rg [] ?_))
  refine .cB (fun h28=>?_) fun h28=>?_
  ·refine .skip (.block (.seq (.rgo [] ?_ ?_)))
   ·simp at h17;have:=ld_ h17.2 k (by omega);have:=ll_ h17.2 h17.1;have:=mm_ h17.2 h17.1;simp;omega
   refine .seq (.rg [] ?_)
   refine .rg [] ?_
   refine⟨m+1,?_,?_,?_⟩
   ·simp only[decide_eq_true_eq]at h28;omega
   ·simp only[decide_eq_true_eq]at h28;omega
   refine Can.wk ?_ ?_
   ·simp at h17;have:=ll_ h17.2 h17.1;have:=mm_ h17.2 h17.1;simp only[decide_eq_true_eq]at h28;rw[ac_ (by omega) (by omega)];exact⟨by rw[List.append_assoc,←ay6_,List.replicate_succ],by omega⟩
   trivial
  refine .exit (.seqJ (fun u:Unit=>⟨[.sl false (sgR l),.no,.no,.s (s8_ l k),.i .i64 (l.getD k G0).1,.i .i64 (xh_ l k),.pt 16 2 0 0,.i .i64 k,.pt 18 4 0 0,.no,.no,.no,.no,.no,.no,.no,.no,.no,.no,.no,.no,.no,.no,.no,.no,.no,.no,.no,.no,.no,.no,.no,.no,.no,.no,.no,.no,.no,.no,.no,.no,.no,.no,.no,.no,.no,.no,.no,.no,.no,.no,.no,.no,.no,.no,.no,.no,.no,.no,.no],ae_ [(16,⟨80,2,[[.i .i64 (ahd l k).2.2.1,.i .i64 (ahd l k).2.2.2]]⟩),(18,⟨138,4,[[.i .i64 (l.getD k G0).1,.i .i64 (l.getD k G0).2.1,.i .i64 (l.getD k G0).2.2.1,.i .i64 (l.getD k G0).2.2.2]]⟩)],us [16,18]⟩) (fun u:Unit=>True) ?_ (fun u hJ=>?_))
  ·refine .seq (.rgo [] ?_ ?_ (h:=by simp only[go_sem,seval,show(IntKind.i64.wrap ((k:Int) - 1)).toNat=k - 1 by(by_cases h0:k=0<;>(try subst h0)<;>(try rw[ac_ (by simp at h17;omega) (by simp at h17;omega)])<;>omega),h6_ (show k - 1<l.length by simp at h17;omega)];rfl))
   ·simp at h17;intro h;have h0:=of_decide_eq_true h;exact⟨h,by rw[ac_ (by omega) (by omega)];omega⟩
   refine .cB (fun h45=>?_) fun h45=>?_
   ·refine .rgo [] ?_ ?_
    ·simp at h17;have:=ld_ h17.2 k (by omega);have:=ll_ h17.2 h17.1;have:=mm_ h17.2 h17.1;simp;omega
    refine Exists.intro (()) ⟨?_,?_⟩
    ·trivial
    refine Can.wk ?_ ?_
    ·simp only[decide_eq_false_iff_not]at h28;have hm:(ahd l k).1+m=(l.getD k G0).1:=(by omega);first|(simp only[Bool.and_eq_true,beq_iff_eq,decide_eq_true_eq]at h45;have hk:k≠0:=(by omega);rw[qg_ hk]at h45;exact⟨asu_ hm hk (by omega),hm,wp_ hm⟩)|(refine⟨apz_ hm fun q=>?_,hm,wp_ hm⟩;rw[qg_ q.1,q.2]at h45;simp at h45;omega)
    trivial
   refine .skip ?_
   refine Exists.intro (()) ⟨?_,?_⟩
   ·trivial
   refine Can.wk ?_ ?_
   ·simp only[decide_eq_false_iff_not]at h28;have hm:(ahd l k).1+m=(l.getD k G0).1:=(by omega);first|(simp only[Bool.and_eq_true,beq_iff_eq,decide_eq_true_eq]at h45;have hk:k≠0:=(by omega);rw[qg_ hk]at h45;exact⟨asu_ hm hk (by omega),hm,wp_ hm⟩)|(refine⟨apz_ hm fun q=>?_,hm,wp_ hm⟩;rw[qg_ q.1,q.2]at h45;simp at h45;omega)
   trivial
  refine .seq (.rgo [a0_ (k<l.length∧h2_ l=true) (fun h=>awt_ (l.getD k G0) (xh_ l k) (ahd l k).2.2.1 (ahd l k).2.2.2 (by have:=ll_ h.2 h.1;have:=mm_ h.2 h.1;unfold xh_;split<;>omega))] ?_ ?_)
  ·simp at h17;have:=awp_ h17.2 h17.1;have:=wa_ [(l.getD k G0).2.1 - xh_ l k,(l.getD k G0).2.2.1 - (ahd l k).2.2.1,(l.getD k G0).2.2.2 - (ahd l k).2.2.2];simp only[List.length_cons,List.length_nil]at this;exact⟨h17,by omega⟩
  refine .seq (.rg [] ?_)
  refine .rg [] ?_
  refine .rg [] ?_
  refine⟨k+1,?_,?_,?_⟩
  ·simp at h17;exact⟨by omega,fun _=>h17.2⟩
  ·simp at h17;omega
  refine Can.wk ?_ ?_
  ·simp at h17;rw[ac4_,aac_,ac_ (by omega) (by omega)];exact⟨rfl,rfl,rfl,rfl⟩
  rfl
 refine .exit (.seq (.rg [] ?_))
 refine .ret ⟨.inr rfl,Out.pP Tryz.results63 ?_⟩;unfold mapT;cases hs:h2_ l;(obtain rfl:k=0:=(by rcases Nat.eq_zero_or_pos k with h|h;exact h;rw[hI.2 h]at hs;cases hs);simp[ij_]);(rw[hs]at h17;simp at h17;(obtain rfl:k=l.length:=(by omega));simp)
attribute [local go_sem] df_ cf_ in
theorem aus_ (l:List Sg) (L c:Int) (hl:l.length≤1000000000000):ACall En 179 [.sl false (sgR l),.ag [.i .i64 L,.i .i64 c]] [] (atk_ (p0_ l L c)) []:=by
 refine aa_ [] Tryz.func179 Tryz.ntmps179 fun C=>?_
 refine .seq (.rg [] ?_)
 refine .seq (.seq (.rg [] ?_))
 refine .block (.loopK (fun k:Nat=>⟨[.sl false (sgR l),.no,.no,.pt 13 2 0 0,.pt 14 2 0 0,.no,.i .i64 ((k:Int) - 1),.no,.no,.no,.no,.no,.no,.no,.no,.no,.no,.no,.no,.no,.no,.no,.no,.no,.no,.no,.no,.no,.no,.no,.no,.no,.no,.no,.no,.no,.no,.no,.no,.no],ae_ [(13,⟨80,2,[[.i .i64 L,.i .i64 c]]⟩),(14,⟨80,2,[[.i .i64 0,.i .i64 0]]⟩)],us [13,14]⟩) (fun k:Nat=>k≤l.length∧p0_ l L c=lp_ l L c k) (fun k:Nat=>k) (l.length) ?_ ?_ (fun k hI=>?_))
 ·exact⟨Nat.le_refl _,rfl⟩
 ·refine Can.wh ?_;rw[ac_ (by omega) (by omega)]
 refine .seq (.seq (.rg [] ?_))
 refine .cB (fun h11=>?_) fun h11=>?_
 ·refine .skip (.seq (.block (.seq (.rgDo [] ?_ ?_ (h:=by simp only[go_sem,seval,show((k:Int) - 1).toNat=k - 1 by omega,h6_ (show k - 1<l.length by simp at h11;omega)];rfl)))))
  ·((simp at h11;simp;omega))
  refine .cB (fun h33=>?_) fun h33=>?_
  ·refine .seq (.rgo [] ?_ ?_ (h:=by simp only[go_sem,seval,show((k:Int) - 1).toNat=k - 1 by omega,h6_ (show k - 1<l.length by simp at h11;omega)];rfl))
   ·((simp at h11;simp;omega))
   refine .ret ⟨.inr rfl,Out.pP Tryz.results179 ?_⟩;simp at h11;(obtain⟨j,rfl⟩:∃j,k=j+1:=⟨k - 1,by omega⟩);rw[hI.2,lp_,if_pos (by simpa using h33)];simp[lkL,lkC]
  refine .skip (.rg [] ?_)
  refine⟨k - 1,?_,?_,?_⟩
  ·simp at h11;refine⟨by omega,?_⟩;rw[hI.2];(obtain⟨j,rfl⟩:∃j,k=j+1:=⟨k - 1,by omega⟩);rw[lp_,if_neg (by simpa using h33)];rfl
  ·simp at h11;omega
  refine Can.wh ?_;simp at h11;rw[ac_ (by omega) (by omega)];simp;omega
 refine .exit (.seq (.rg [] ?_))
 refine .ret ⟨.inr rfl,Out.pP Tryz.results179 ?_⟩;simp at h11;(obtain rfl:k=0:=(by omega));rw[hI.2];simp[lp_,lkL,lkC]
attribute [local go_sem] cf_ in
theorem ais_ (l:List Sg) (L c:Int) (hl:l.length≤1000000000000):ACall En 115 [.sl false (sgR l),.ag [.i .i64 L,.i .i64 c]] [] [.ag [.i .i64 (lkL (g3_ l L c)),.i .i64 (lkC (g3_ l L c))],.b (g3_ l L c).isSome] []:=by
 refine aa_ [] Tryz.func115 Tryz.ntmps115 fun C=>?_
 refine .seq (.rg [] ?_)
 refine .seq (.seq (.rg [ab_ (q4_ l hl)] ?_))
 refine .cB (fun h8=>?_) fun h8=>?_
 ·refine .seq (.rg [] ?_)
  refine .ret ⟨.inr rfl,Out.pP Tryz.results115 ?_⟩;simp at h8;simp[g3_,h8,lkL,lkC]
 refine .skip (.seq (.rg [ab_ (aus_ l L c hl)] ?_))
 refine .ret ⟨.inr rfl,Out.pP Tryz.results115 ?_⟩;simp at h8;simp[g3_,h8]
attribute [local go_sem] aw_ a5_ df_ cf_ ka_ ik_ cmpO cmpB pl_ intA in
theorem aj3_ (l:List Sg) (L c:Int) (hl:l.length≤1000000000):ACall En 117 [.sl false (sgR l),.ag [.i .i64 L,.i .i64 c]] [] [.sl false (toR (di_ l L c))] []:=by
 have hF:∀k,((l.take k).filter (es_ L c)).length≤k:=fun k=>Nat.le_trans (List.length_filter_le _ _) (by rw[List.length_take];omega)
 have hb:=ar9_
 refine aa_ [] Tryz.func117 Tryz.ntmps117 fun C=>?_
 refine .seq (.rg [] ?_ (h:=by simp only[go_sem,seval,hb];rfl))
 refine .seq (.rg [] ?_ (h:=by simp only[go_sem,seval,hb];rfl))
 refine .seq (.seq (.rg [] ?_ (h:=by simp only[go_sem,seval,hb];rfl)))
 refine .block (.loopK (fun k:Nat=>⟨[.sl false (sgR l),.no,.no,.pt 13 2 0 0,.no,.ow 20 2 0 ((l.take k).filter (es_ L c)).length,.i .i64 k,.no,.no,.no,.no,.no,.no,.no,.no,.no,.no,.no,.no,.no,.no,.no,.no,.no,.no,.no,.no,.no,.no,.no,.no,.no,.no,.no],ae_ [(13,⟨80,2,[[.i .i64 L,.i .i64 c]]⟩),(20,⟨80,2,toR ((l.take k).filter (es_ L c))⟩)],us [13,20]⟩) (fun k:Nat=>k≤l.length∧(0<k→h2_ l=true)) (fun k:Nat=>l.length - k) (0) ?_ ?_ (fun k hI=>?_))
 ·exact⟨by simp,fun h=>absurd h (by omega)⟩
 ·refine Can.trans (Can.ownSlot 5 20 80 2 (by simp only[go_sem,seval,hb]<;>rfl) (by simp only[go_sem,seval,hb]) (by simp only[go_sem,seval,hb]<;>rfl)) ?_
  exact Can.wl (h:=by simp only[go_sem,seval,hb,av_,leV,as_,au_,V.inn,us,true_or,or_true]<;>(simp)) (hi:=by simp only[go_sem,seval,hb,av_,leV,as_,au_,V.inn,us,true_or,or_true]) (hL:=by simp only[go_sem,seval,hb,av_,leV,as_,au_,V.inn,us,true_or,or_true]<;>(simp[toR]))
 refine .seq (.seq (.rg [ab_ (q4_ l (by omega))] ?_ (h:=by simp only[go_sem,seval,hb];rfl)))
 refine .cB (fun h15=>?_) (fun h15=>?_) (hc:=by simp only[go_sem,seval,hb];rfl) (hp:=by simp only[go_sem,seval,hb])
 ·refine .skip (.seqJ (fun u:Unit=>⟨[.sl false (sgR l),.no,.no,.pt 13 2 0 0,.no,.ow 20 2 0 ((l.take (k+1)).filter (es_ L c)).length,.i .i64 k,.no,.no,.no,.no,.no,.no,.no,.no,.no,.no,.no,.no,.no,.no,.no,.no,.no,.no,.no,.no,.no,.no,.no,.no,.no,.no,.no],ae_ [(13,⟨80,2,[[.i .i64 L,.i .i64 c]]⟩),(20,⟨80,2,toR ((l.take (k+1)).filter (es_ L c))⟩)],us [13,20]⟩) (fun u:Unit=>True) ?_ (fun u hJ=>?_))
  ·refine .block (.seq (.rgDSo [24] [cmpO En .eql 80 2 az9_] ?_ ?_ (h:=by simp only[go_sem,seval,hb,h6_ (show k<l.length by simp at h15;exact h15.1)];rfl)))
   ·simp at h15;simp;omega
   refine .cB (fun h24=>?_) (fun h24=>?_) (hc:=by simp only[go_sem,seval,hb];rfl) (hp:=by simp only[go_sem,seval,hb])
   ·refine .rgo [] ?_ ?_ (h:=by simp only[go_sem,seval,hb,h6_ (show k<l.length by simp at h15;exact h15.1)];rfl)
    ·simp at h15;have:=hF k;simp[ik_];omega
    refine Exists.intro (()) ⟨?_,?_⟩
    ·trivial
    refine Can.trans (Can.swap 42 20 (by decide) (by decide) (by decide) (by decide) (by simp only[go_sem,seval,hb,V.cl]) (by simp only[go_sem,seval,hb,V.cl]) (by simp only[go_sem,seval,hb,dv_,sw,swM,rnB]<;>rfl) (by simp only[go_sem,seval,hb,dv_,sw,swM,rnB]<;>rfl) (by simp only[go_sem,seval,hb,dv_,sw,swM,rnB]<;>rfl)) ?_
    exact Can.wl (h:=by simp only[go_sem,seval,hb,av_,leV,as_,au_,V.inn,us,true_or,or_true]<;>((rw[j1_ (by simp at h15;exact h15.1),if_pos (by simpa using h24)];simp;done))) (hi:=by simp only[go_sem,seval,hb,av_,leV,as_,au_,V.inn,us,true_or,or_true]) (hL:=by simp only[go_sem,seval,hb,av_,leV,as_,au_,V.inn,us,true_or,or_true]<;>((rw[j1_ (by simp at h15;exact h15.1),if_pos (by simpa using h24)];simp[toR];done)))
   refine .skip ?_
   refine Exists.intro (()) ⟨?_,?_⟩
   ·trivial
   exact Can.wl (h:=by simp only[go_sem,seval,hb,av_,leV,as_,au_,V.inn,us,true_or,or_true]<;>((rw[j1_ (by simp at h15;exact h15.1),if_neg (by simpa using h24)];simp;done))) (hi:=by simp only[go_sem,seval,hb,av_,leV,as_,au_,V.inn,us,true_or,or_true]) (hL:=by simp only[go_sem,seval,hb,av_,leV,as_,au_,V.inn,us,true_or,or_true]<;>((rw[j1_ (by simp at h15;exact h15.1),if_neg (by simpa using h24)];simp[toR];done)))
  refine .rg [] ?_ (h:=by simp only[go_sem,seval,hb];rfl)
  refine⟨k+1,?_,?_,?_⟩
  ·simp at h15;exact⟨by omega,fun _=>h15.2⟩
  ·simp at h15;omega
  exact Can.wl (h:=by simp only[go_sem,seval,hb,av_,leV,as_,au_,V.inn,us,true_or,or_true]<;>(rw[ac_ (by simp at h15;omega) (by simp at h15;omega)];simp)) (hi:=by simp only[go_sem,seval,hb,av_,leV,as_,au_,V.inn,us,true_or,or_true]) (hL:=by simp only[go_sem,seval,hb,av_,leV,as_,au_,V.inn,us,true_or,or_true])
 refine .exit (.seq (.rg [] ?_ (h:=by simp only[go_sem,seval,hb];rfl)))
 refine .frz 20 (by simp only[go_sem,seval,hb];rfl) (by simp only[go_sem,seval,hb]) (by simp only[go_sem,seval,hb];rfl) (by simp only[go_sem,seval,hb];rfl) ?_
 refine .ret ⟨.inr rfl,?_⟩
 exact Out.plL (by simp only[Tryz.results117];rfl) (by simp only[ba_,go_sem,seval,hb]<;>(rw[List.take_of_length_le (by rw[ik_];exact Nat.le_refl _),show(l.take k).filter (es_ L c)=di_ l L c by(unfold di_;cases hs:h2_ l;(obtain rfl:k=0:=(by rcases Nat.eq_zero_or_pos k with h|h;exact h;rw[hI.2 h]at hs;cases hs);simp);(rw[hs]at h15;simp at h15;(obtain rfl:k=l.length:=(by omega));simp))];exact ad_ _)) (h1:=by simp only[a1_,bn_,go_sem,seval,hb]<;>(split<;>rfl)) (h3:=by simp only[go_sem,seval,hb])
end
section
theorem abi_ {l:List Sl} {k:Nat} (hk:k<l.length):k<(l.map ofS).length:=by rw[List.length_map];exact hk
theorem dr_ {l:List Sl} {k:Nat} (hk:k≤l.length) (h16:l.length≤16):(ar_ ((l.map ofS).take k)).names.length=(ar_ ((l.map ofS).take k)).nums.length∧(ar_ ((l.map ofS).take k)).names.length≤16∧(ar_ ((l.map ofS).take k)).said.length≤16:=eh_ (by rw[List.length_map];exact hk) (by rw[List.length_map];exact h16)
theorem hj_ {l:List Sl} {k:Nat} (hk:k<l.length) (h:(l.getD k S0).kind=0):ar_ ((l.map ofS).take (k+1))=ar_ ((l.map ofS).take k):=g6_ (abi_ hk) (by rw[ev_ hk];exact h)
theorem ir_ {l:List Sl} {k:Nat} (hk:k<l.length) (h:(ar_ ((l.map ofS).take k)).ok=true) (h1:(l.getD k S0).kind=1) (h2:(c2_ (ofS (l.getD k S0)) (ar_ ((l.map ofS).take k)).names (ar_ ((l.map ofS).take k)).nums).2.2=true) :
  ar_ ((l.map ofS).take (k+1))={ ar_ ((l.map ofS).take k)with names:=(ar_ ((l.map ofS).take k)).names++[(l.getD k S0).name],nums:=(ar_ ((l.map ofS).take k)).nums++[(rk (l.getD k S0).expr (ar_ ((l.map ofS).take k)).names (ar_ ((l.map ofS).take k)).nums).1] }:=by
 have:=ji_ (abi_ hk) h (by rw[ev_ hk];exact h1) (by rw[ev_ hk];exact h2)
 rw[ev_ hk]at this;exact this
theorem e9_ {l:List Sl} {k:Nat} (hk:k<l.length) (h:(ar_ ((l.map ofS).take k)).ok=true) (h0:¬(l.getD k S0).kind=0) (h1:¬(l.getD k S0).kind=1) (h2:(c2_ (ofS (l.getD k S0)) (ar_ ((l.map ofS).take k)).names (ar_ ((l.map ofS).take k)).nums).2.2=true) (h3:(l.getD k S0).kind=2∨¬(rk (l.getD k S0).expr (ar_ ((l.map ofS).take k)).names (ar_ ((l.map ofS).take k)).nums).1=0) :
  ar_ ((l.map ofS).take (k+1))={ ar_ ((l.map ofS).take k)with said:=(ar_ ((l.map ofS).take k)).said++[(c2_ (ofS (l.getD k S0)) (ar_ ((l.map ofS).take k)).names (ar_ ((l.map ofS).take k)).nums).2.1] }:=by
 have:=fq_ (abi_ hk) h (by rw[ev_ hk];exact h0) (by rw[ev_ hk];exact h1) (by rw[ev_ hk];exact h2) (by rw[ev_ hk];exact h3)
 rw[ev_ hk]at this;exact this
theorem hg_ {l:List Sl} {k:Nat} (hk:k<l.length) (h:(ar_ ((l.map ofS).take k)).ok=true) (h0:¬(l.getD k S0).kind=0) (h1:¬(l.getD k S0).kind=1) (h2:(c2_ (ofS (l.getD k S0)) (ar_ ((l.map ofS).take k)).names (ar_ ((l.map ofS).take k)).nums).2.2=true) (h3:¬(l.getD k S0).kind=2) (h4:(rk (l.getD k S0).expr (ar_ ((l.map ofS).take k)).names (ar_ ((l.map ofS).take k)).nums).1=0) :
  ar_ ((l.map ofS).take (k+1))=ar_ ((l.map ofS).take k):=he_ (abi_ hk) h (by rw[ev_ hk];exact h0) (by rw[ev_ hk];exact h1) (by rw[ev_ hk];exact h2) (by rw[ev_ hk];exact h3) (by rw[ev_ hk];exact h4)
attribute [local go_sem] dy_ c3_ a2_ al_ a9_ in
theorem ahj_ (l:List Sl) (hs:p5_ l=true) (hl:l.length<4611686018427387904):ACall En 91 [.sl false (sR l)] [] [.ow 0 1 0 (f5_ l).1.length,.b (f5_ l).2] [⟨3,1,inR (f5_ l).1⟩]:=by
 have F1:∀k,pok l=true→k<l.length→¬(l.getD k S0).kind=0→form (l.getD k S0).expr ((5:Nat):Int)=true:=fun k h hk hk0=>ao_ (mk_ ((bd_ h).2.2 k hk) hk0)
 have F2:∀k,pok l=true→k<l.length→(l.getD k S0).kind=3→form (l.getD k S0).thn ((5:Nat):Int)=true:=fun k h hk hk0=>ao_ (o5_ ((bd_ h).2.2 k hk) hk0)
 refine aa_ [22] Tryz.func91 Tryz.ntmps91 fun C=>?_
 refine .seq (.rg [] ?_)
 refine .seq (.seq (.rg [ab_ (r5_ l hs hl)] ?_))
 refine .cB (fun h14=>?_) fun h14=>?_
 ·refine .seq (.rg [] ?_)
  refine .can (Can.ownSlot 2 22 3 1 (by simp only[go_sem,seval]<;>rfl) (by simp only[go_sem,seval]) (by simp only[go_sem,seval]<;>rfl)) ?_
  refine .ret ⟨.inr rfl,Out.mP Tryz.results91 ?_ ?_⟩
  ·rw[ql_ (by simpa using h14)];try simp
  rw[ql_ (by simpa using h14)];simp[inR]
 refine .skip (.seq (.rg [] ?_))
 refine .seq (.rg [] ?_)
 refine .seq (.seq (.rg [] ?_))
 refine .block (.loopK (fun k:Nat=>⟨[.no,.no,.no,.no,.ow 20 1 0 (ar_ ((l.map ofS).take k)).names.length,.ow 21 1 0 (ar_ ((l.map ofS).take k)).nums.length,.ow 22 1 0 (ar_ ((l.map ofS).take k)).said.length,.no,.no,.no,.no,.no,.no,.no,.no,.sl false (sR l),.i .i64 l.length,.i .i64 k,.no,.no,.no,.no,.no,.no,.no,.no,.no,.no,.no,.no,.no,.no,.no,.no,.no,.no,.no,.no,.no,.no,.no,.no,.no,.no,.no,.no,.no,.no,.no,.no,.no,.no,.no,.no,.no,.no,.no,.no,.no,.no,.no,.no,.no,.no,.no,.no,.no,.no,.no,.no,.no,.no,.no,.no,.no,.no,.no,.no,.no,.no],ae_ [(20,⟨9,1,ai_ (ar_ ((l.map ofS).take k)).names⟩),(21,⟨3,1,inR (ar_ ((l.map ofS).take k)).nums⟩),(22,⟨3,1,inR (ar_ ((l.map ofS).take k)).said⟩)],us [20,21,22]⟩) (fun k:Nat=>k≤l.length∧(ar_ ((l.map ofS).take k)).ok=true∧pok l=true) (fun k:Nat=>l.length - k) (0) ?_ ?_ (fun k hI=>?_))
 ·exact⟨Nat.zero_le _,by simp[ar_],by simpa using h14⟩
 ·refine Can.trans (Can.ownSlot 4 20 9 1 (by simp only[go_sem,seval]<;>rfl) (by simp only[go_sem,seval]) (by simp only[go_sem,seval]<;>rfl)) ?_
  refine Can.trans (Can.ownSlot 5 21 3 1 (by simp only[go_sem,seval]<;>rfl) (by simp only[go_sem,seval]) (by simp only[go_sem,seval]<;>rfl)) ?_
  refine Can.trans (Can.ownSlot 6 22 3 1 (by simp only[go_sem,seval]<;>rfl) (by simp only[go_sem,seval]) (by simp only[go_sem,seval]<;>rfl)) ?_
  refine Can.wk ?_ ?_
  ·simp[ar_]
  simp[ar_,ai_,inR]
 refine .seq (.rg [] ?_)
 refine .seq (.cB (fun h18=>?_) fun h18=>?_)
 ·refine .skip (.seq (.block (.seq (.rgo [] ?_ ?_ (h:=by simp only[go_sem,seval,j6_ (show k<l.length by simpa using h18),a9_];rfl)))))
  ·simp at h18;simp;omega
  refine .seq (.seq (.rg [] ?_))
  refine .cB (fun h23=>?_) fun h23=>?_
  ·refine .exit (.rg [] ?_)
   refine⟨k+1,?_,?_,?_⟩
   ·have hk:k<l.length:=(by simpa using h18);have e:=hj_ hk (by simpa using h23);exact⟨by omega,by rw[e];exact hI.2.1,hI.2.2⟩
   ·simp at h18;omega
   refine Can.wk ?_ ?_
   ·(have hk:k<l.length:=(by simpa using h18));(have e:=hj_ hk (by simpa using h23));rw[e,ac_ (by omega) (by omega)];simp
   (have hk:k<l.length:=(by simpa using h18));(have e:=hj_ hk (by simpa using h23));rw[e];simp
  refine .skip (.seq (.rgo [kv_ (o2_ 5 (l.getD k S0).expr (ar_ ((l.map ofS).take k)).names (ar_ ((l.map ofS).take k)).nums (F1 k hI.2.2 (by simpa using h18) (by simpa using h23)) (dr_ hI.1 (bd_ hI.2.2).2.1).1 (by have:=(dr_ hI.1 (bd_ hI.2.2).2.1).2.1;omega))] ?_ ?_))
  ·(first|(simp[List.take_of_length_le,af_,a2_,ad_];done))
  refine .seq (.rg [] ?_)
  refine .seqJ (fun q:Int × Bool=>⟨[.no,.no,.no,.no,.ow 20 1 0 (ar_ ((l.map ofS).take k)).names.length,.ow 21 1 0 (ar_ ((l.map ofS).take k)).nums.length,.ow 22 1 0 (ar_ ((l.map ofS).take k)).said.length,.no,.pt 18 11 0 0,.i .i64 (rk (l.getD k S0).expr (ar_ ((l.map ofS).take k)).names (ar_ ((l.map ofS).take k)).nums).1,.b q.2,.i .i64 q.1,.no,.no,.no,.sl false (sR l),.i .i64 l.length,.i .i64 k,.no,.no,.no,.no,.no,.no,.no,.no,.no,.no,.no,.no,.no,.no,.no,.no,.no,.no,.no,.no,.no,.no,.no,.no,.no,.no,.no,.no,.no,.no,.no,.no,.no,.no,.no,.no,.no,.no,.no,.no,.no,.no,.no,.no,.no,.no,.no,.no,.no,.no,.no,.no,.no,.no,.no,.no,.no,.no,.no,.no,.no,.no],ae_ [(18,⟨58,11,[sC (l.getD k S0)]⟩),(20,⟨9,1,ai_ (ar_ ((l.map ofS).take k)).names⟩),(21,⟨3,1,inR (ar_ ((l.map ofS).take k)).nums⟩),(22,⟨3,1,inR (ar_ ((l.map ofS).take k)).said⟩)],us [20,21,22,18]⟩) (fun q:Int × Bool=>q=((c2_ (ofS (l.getD k S0)) (ar_ ((l.map ofS).take k)).names (ar_ ((l.map ofS).take k)).nums).2.1,(c2_ (ofS (l.getD k S0)) (ar_ ((l.map ofS).take k)).names (ar_ ((l.map ofS).take k)).nums).2.2)) ?_ (fun q hJ=>?_)
  ·refine .seq (.rg [] ?_)
   refine .cB (fun h38=>?_) fun h38=>?_
   ·refine .rgo [kv_ (o2_ 5 (l.getD k S0).thn (ar_ ((l.map ofS).take k)).names (ar_ ((l.map ofS).take k)).nums (F2 k hI.2.2 (by simpa using h18) (by simp at h38;exact h38.2)) (dr_ hI.1 (bd_ hI.2.2).2.1).1 (by have:=(dr_ hI.1 (bd_ hI.2.2).2.1).2.1;omega))] ?_ ?_
    ·(first|(simp[List.take_of_length_le,af_,a2_,ad_];done))
    refine Exists.intro (((rk (l.getD k S0).thn (ar_ ((l.map ofS).take k)).names (ar_ ((l.map ofS).take k)).nums).1,(rk (l.getD k S0).thn (ar_ ((l.map ofS).take k)).names (ar_ ((l.map ofS).take k)).nums).2)) ⟨?_,?_⟩
    ·unfold c2_;first|(rw[if_pos (by simp at h38 ⊢;exact h38)];done)|(rw[if_neg (by simp at h38 ⊢;exact h38)];done)
    exact Can.wl
   refine .skip ?_
   refine Exists.intro (((rk (l.getD k S0).expr (ar_ ((l.map ofS).take k)).names (ar_ ((l.map ofS).take k)).nums).1,(rk (l.getD k S0).expr (ar_ ((l.map ofS).take k)).names (ar_ ((l.map ofS).take k)).nums).2)) ⟨?_,?_⟩
   ·unfold c2_;first|(rw[if_pos (by simp at h38 ⊢;exact h38)];done)|(rw[if_neg (by simp at h38 ⊢;exact h38)];done)
   exact Can.wl
  refine .block (.seq (.rg [] ?_))
  refine .cB (fun h47=>?_) fun h47=>?_
  ·refine .seq (.rg [at_ [22] [] (ni_ (ar_ ((l.map ofS).take k)).said (ar_ ((l.map ofS).take k)).said.length rfl (by have:=(dr_ hI.1 (bd_ hI.2.2).2.1).2.2;omega))] ?_)
   refine .ret ⟨.inr rfl,Out.mP Tryz.results91 ?_ ?_⟩
   ·rw[nf_ hI.2.2 (by simpa using h18) hI.2.1 (by simpa using h23) (by rw[hJ]at h47;simpa using h47)];try simp
   rw[nf_ hI.2.2 (by simpa using h18) hI.2.1 (by simpa using h23) (by rw[hJ]at h47;simpa using h47)];(try simp[b7_,al_])
  refine .seq (.rg [] ?_)
  refine .cB (fun h52=>?_) fun h52=>?_
  ·refine .rgo [] ?_ ?_
   ·have:=dr_ hI.1 (bd_ hI.2.2).2.1;simp;omega
   refine .rg [] ?_
   refine⟨k+1,?_,?_,?_⟩
   ·have hk:k<l.length:=(by simpa using h18);have e:=ir_ hk hI.2.1 (by simpa using h52) (by rw[hJ]at h47;simpa using h47);exact⟨by omega,by rw[e];exact hI.2.1,hI.2.2⟩
   ·simp at h18;omega
   refine Can.trans (Can.sX 70 20) ?_
   refine Can.trans (Can.sX 74 21) ?_
   refine Can.wk ?_ ?_
   ·(have hk:k<l.length:=(by simpa using h18));(have e:=ir_ hk hI.2.1 (by simpa using h52) (by rw[hJ]at h47;simpa using h47));rw[e,ac_ (by omega) (by omega)];simp
   (have hk:k<l.length:=(by simpa using h18));(have e:=ir_ hk hI.2.1 (by simpa using h52) (by rw[hJ]at h47;simpa using h47));rw[e];simp[kz_,dn_]
  refine .seq (.rg [] ?_)
  refine .cB (fun h65=>?_) fun h65=>?_
  ·refine .rgo [] ?_ ?_
   ·have:=dr_ hI.1 (bd_ hI.2.2).2.1;simp;omega
   refine .rg [] ?_
   refine⟨k+1,?_,?_,?_⟩
   ·have hk:k<l.length:=(by simpa using h18);have e:=e9_ hk hI.2.1 (by simpa using h23) (by simpa using h52) (by rw[hJ]at h47;simpa using h47) (by simp at h65;exact h65);exact⟨by omega,by rw[e];exact hI.2.1,hI.2.2⟩
   ·simp at h18;omega
   refine Can.trans (Can.sX 86 22) ?_
   refine Can.wk ?_ ?_
   ·(have hk:k<l.length:=(by simpa using h18));(have e:=e9_ hk hI.2.1 (by simpa using h23) (by simpa using h52) (by rw[hJ]at h47;simpa using h47) (by simp at h65;exact h65));rw[e,ac_ (by omega) (by omega)];simp
   (have hk:k<l.length:=(by simpa using h18));(have e:=e9_ hk hI.2.1 (by simpa using h23) (by simpa using h52) (by rw[hJ]at h47;simpa using h47) (by simp at h65;exact h65));rw[e];simp[dn_,hJ]
  refine .skip (.rg [] ?_)
  refine⟨k+1,?_,?_,?_⟩
  ·have hk:k<l.length:=(by simpa using h18);have e:=hg_ hk hI.2.1 (by simpa using h23) (by simpa using h52) (by rw[hJ]at h47;simpa using h47) (by simp at h65;exact h65.1) (by simp at h65;exact h65.2);exact⟨by omega,by rw[e];exact hI.2.1,hI.2.2⟩
  ·simp at h18;omega
  refine Can.wk ?_ ?_
  ·(have hk:k<l.length:=(by simpa using h18));(have e:=hg_ hk hI.2.1 (by simpa using h23) (by simpa using h52) (by rw[hJ]at h47;simpa using h47) (by simp at h65;exact h65.1) (by simp at h65;exact h65.2));rw[e,ac_ (by omega) (by omega)];simp
  (have hk:k<l.length:=(by simpa using h18));(have e:=hg_ hk hI.2.1 (by simpa using h23) (by simpa using h52) (by rw[hJ]at h47;simpa using h47) (by simp at h65;exact h65.1) (by simp at h65;exact h65.2));rw[e];simp
 refine .exit (.seq (.rg [at_ [22] [] (ni_ (ar_ ((l.map ofS).take k)).said (ar_ ((l.map ofS).take k)).said.length rfl (by have:=(dr_ hI.1 (bd_ hI.2.2).2.1).2.2;omega))] ?_))
 refine .ret ⟨.inr rfl,Out.mP Tryz.results91 ?_ ?_⟩
 ·rw[pg_ hI.2.2 (by simpa using h18) hI.2.1];try simp
 rw[pg_ hI.2.2 (by simpa using h18) hI.2.1];(try simp[b7_,al_])
theorem ajw_ (l:List Sl) (hs:p5_ l=true) (hl:l.length<4611686018427387904):ACall En 91 [.sl false (sR l)] [] [.sl false (inR (f5_ l).1),.b (f5_ l).2] []:=
 ACall.frz1 (ahj_ l hs hl) (by simp[er_,frz,a2_,List.take_of_length_le])
end
section
def q6_ (b:Bl):Sl:=⟨b.kind,b.name,[],b.expr,b.thn⟩
theorem tSlE (b:Bl):(q6_ b).kind=b.kind∧(q6_ b).name=b.name∧(q6_ b).type=[]∧(q6_ b).expr=b.expr∧(q6_ b).thn=b.thn:=⟨rfl,rfl,rfl,rfl,rfl⟩
theorem inE (l:List Int):(inR l).length=l.length∧bg_ (inR l)=true:=⟨a2_ l,al_ l⟩
theorem ml_ {l:List Bl} {k:Nat} (h:k<l.length):(sR (l.map q6_)).getD k []=sC (q6_ (l.getD k B0)):=by
 simp[sR,List.getD_eq_getElem?_getD,List.getElem?_eq_getElem h]
theorem ahm_ (l:List Bl):(sR (l.map q6_)).length=l.length:=by simp[sR]
attribute [local go_sem] js_ i8_ cp_ in
theorem a22_ (l:List Bl) (hs:allB l=true) (hl:l.length<4611686018427387904):ACall En 188 [.sl false (bLR l)] [] [.b (lok l)] []:=by
 refine aa_ [] Tryz.func188 Tryz.ntmps188 fun C=>?_
 refine .seq (.rg [] ?_)
 refine .seq (.seq (.rg [] ?_))
 refine .block (.loopK (fun k:Nat=>⟨[.sl false (bLR l),.no,.no,.i .i64 k,.no,.no,.no,.no,.no,.no,.no,.no,.no,.no,.no,.no,.no,.no,.no,.no,.no,.no,.no,.no],ae_ [],us []⟩) (fun k:Nat=>k≤l.length∧(l.take k).any (fun s=>!bok s)=false) (fun k:Nat=>l.length - k) (0) ?_ ?_ (fun k hI=>?_))
 ·simp
 ·refine Can.wh ?_;trivial
 refine .seq (.seq (.rg [] ?_))
 refine .cB (fun h7=>?_) fun h7=>?_
 ·refine .skip (.seq (.block (.seq (.rgo [a0_ (k<l.length) (fun h=>x6_ (l.getD k B0) (amu_ hs h))] ?_ ?_ (h:=by simp only[go_sem,seval,tl_ (show k<l.length by simpa using h7)];rfl)))))
  ·simp only[decide_eq_true_eq]at h7;simp;omega
  refine .cB (fun h15=>?_) fun h15=>?_
  ·refine .seq (.rg [] ?_)
   refine .ret ⟨.inr rfl,Out.pP Tryz.results188 ?_⟩;simp only[decide_eq_true_eq]at h7;have:l.all bok=false:=(by rw[List.all_eq_false];exact⟨_,ag_ (d:=B0) (show k<l.length by omega),by simpa using h15⟩);simp[lok,this]
  refine .skip (.rg [] ?_)
  refine⟨k+1,?_,?_,?_⟩
  ·simp at h7;refine⟨by omega,?_⟩;rw[i6_ (d:=B0) h7,hI.2,h15];rfl
  ·simp at h7;omega
  refine Can.wh ?_;rw[ac_ (by omega) (by omega)];simp
 refine .exit (.seq (.rg [] ?_))
 refine .ret ⟨.inr rfl,Out.pP Tryz.results188 ?_⟩;simp only[decide_eq_false_iff_not]at h7;have h0:=hI.2;rw[List.take_of_length_le (by omega),anyB]at h0;simp only[Bool.not_eq_false']at h0;simp only[lok,h0,Bool.and_true,dt_,ge_iff_le];rfl
def s1_ (b:Bl) (N:List Str) (M:List Int):Int:=if (rk b.expr N M).2=true∧b.kind=3 then(rk b.thn N M).1 else 0
attribute [local go_sem] inE a9_ tSlE in
theorem aud_ (b:Bl) (N:List Str) (M:List Int) (h:form b.expr ((5:Nat):Int)=true) (h2:b.kind=3→form b.thn ((5:Nat):Int)=true) (hl:N.length=M.length) (hn:N.length≤1000000) :
  ACall En 193 [.ag (sC (q6_ b)),.sl false (ai_ N),.sl false (inR M)] [] [.i .i64 (rk b.expr N M).1,.i .i64 (s1_ b N M),.b (c2_ b N M).2.2] []:=by
 refine aa_ [] Tryz.func193 Tryz.ntmps193 fun C=>?_
 refine .seq (.rg [] ?_)
 refine .seq (.rg [ab_ (ak8_ 5 b.expr N M h hl hn)] ?_)
 refine .seq (.seq (.rg [] ?_))
 refine .cB (fun h27=>?_) fun h27=>?_
 ·refine .seq (.rg [] ?_)
  refine .ret ⟨.inr rfl,Out.pP Tryz.results193 ?_⟩;unfold c2_ s1_;simp at h27;(by_cases hk:b.kind=3<;>simp_all)
 refine .skip (.seq (.rg [ab_ (ak8_ 5 b.thn N M (h2 (by simp at h27;exact h27.1)) hl hn)] ?_))
 refine .seq (.rg [] ?_)
 refine .ret ⟨.inr rfl,Out.pP Tryz.results193 ?_⟩;unfold c2_ s1_;simp at h27;simp[h27]
theorem w6_ {b:Bl} {N:List Str} {M:List Int} (k:b.kind=3) (h:(c2_ b N M).2.2=true):(c2_ b N M).2.1=s1_ b N M:=by
 unfold c2_ s1_ at *
 by_cases hk:(rk b.expr N M).2=true∧b.kind=3
 ·rw[if_pos hk,if_pos hk]
 rw[if_neg hk]at h
 exact absurd ⟨h,k⟩ hk
theorem afj_ {b:Bl} {N:List Str} {M:List Int} (k:b.kind=2):(c2_ b N M).2.1=(rk b.expr N M).1:=by
 unfold c2_;rw[if_neg (by omega)]
attribute [local go_sem] ahm_ c3_ inE a9_ tSlE in
theorem au2_ (l:List Bl) (hs:lok l=true):ACall En 189 [.sl false (sR (l.map q6_))] [] [.ow 0 1 0 (jd_ l).1.length,.b (jd_ l).2] [⟨3,1,inR (jd_ l).1⟩]:=by
 have hb:=(da_ hs).2.1
 have F1:∀k,k<l.length→¬(l.getD k B0).kind=0→form (l.getD k B0).expr ((5:Nat):Int)=true:=fun k hk hk0=>ao_ (vz_ ((da_ hs).2.2 k hk) hk0)
 have F2:∀k,k<l.length→(l.getD k B0).kind=3→form (l.getD k B0).thn ((5:Nat):Int)=true:=fun k hk hk0=>ao_ (ab5_ ((da_ hs).2.2 k hk) hk0)
 have F3:∀k,k<l.length→¬(l.getD k B0).kind=0→¬(l.getD k B0).kind=1→¬(l.getD k B0).kind=2→(l.getD k B0).kind=3:=fun k hk a b c=>by have:=aub_ ((da_ hs).2.2 k hk);omega
 refine aa_ [22] Tryz.func189 Tryz.ntmps189 fun C=>?_
 refine .seq (.rg [] ?_)
 refine .seq (.rg [] ?_)
 refine .seq (.rg [] ?_)
 refine .seq (.rg [] ?_)
 refine .seq (.seq (.rg [] ?_))
 refine .block (.loopK (fun k:Nat=>⟨[.sl false (sR (l.map q6_)),.no,.no,.no,.ow 22 1 0 (ar_ (l.take k)).said.length,.ow 20 1 0 (ar_ (l.take k)).names.length,.ow 21 1 0 (ar_ (l.take k)).nums.length,.i .i64 k,.no,.no,.no,.no,.no,.no,.no,.no,.no,.no,.no,.no,.no,.no,.no,.no,.no,.no,.no,.no,.no,.no,.no,.no,.no,.no,.no,.no,.no,.no,.no,.no,.no,.no,.no,.no,.no,.no,.no,.no,.no,.no,.no,.no,.no,.no,.no,.no,.no,.no,.no,.no,.no,.no,.no,.no,.no,.no,.no,.no,.no,.no,.no,.no,.no,.no,.no,.no,.no,.no,.no],ae_ [(20,⟨9,1,ai_ (ar_ (l.take k)).names⟩),(21,⟨3,1,inR (ar_ (l.take k)).nums⟩),(22,⟨3,1,inR (ar_ (l.take k)).said⟩)],us [20,21,22]⟩) (fun k:Nat=>k≤l.length∧(ar_ (l.take k)).ok=true) (fun k:Nat=>l.length - k) (0) ?_ ?_ (fun k hI=>?_))
 ·exact⟨Nat.zero_le _,by simp[ar_]⟩
 ·refine Can.trans (Can.ownSlot 5 20 9 1 (by simp only[go_sem,seval]<;>rfl) (by simp only[go_sem,seval]) (by simp only[go_sem,seval]<;>rfl)) ?_
  refine Can.trans (Can.ownSlot 6 21 3 1 (by simp only[go_sem,seval]<;>rfl) (by simp only[go_sem,seval]) (by simp only[go_sem,seval]<;>rfl)) ?_
  refine Can.trans (Can.ownSlot 4 22 3 1 (by simp only[go_sem,seval]<;>rfl) (by simp only[go_sem,seval]) (by simp only[go_sem,seval]<;>rfl)) ?_
  refine Can.wk ?_ ?_
  ·simp[ar_]
  simp[ar_,ai_,inR]
 refine .seq (.seq (.rg [] ?_))
 refine .cB (fun h17=>?_) fun h17=>?_
 ·refine .skip (.seq (.block (.seq (.seq (.rgo [] ?_ ?_ (h:=by simp only[go_sem,seval,ml_ (show k<l.length by simpa using h17)];rfl))))))
  ·simp at h17;simp;omega
  refine .cB (fun h25=>?_) fun h25=>?_
  ·refine .exit (.rg [] ?_)
   refine⟨k+1,?_,?_,?_⟩
   ·have hk:k<l.length:=(by simpa using h17);have e:=g6_ hk (by simpa using h25);exact⟨by omega,by rw[e];exact hI.2⟩
   ·simp at h17;omega
   refine Can.wk ?_ ?_
   ·(have hk:k<l.length:=(by simpa using h17));(have e:=g6_ hk (by simpa using h25));rw[e,ac_ (by omega) (by omega)];simp
   (have hk:k<l.length:=(by simpa using h17));(have e:=g6_ hk (by simpa using h25));rw[e];simp
  refine .skip (.seq (.rgo [kv_ (aud_ (l.getD k B0) (ar_ (l.take k)).names (ar_ (l.take k)).nums (F1 k (by simpa using h17) (by simpa using h25)) (F2 k (by simpa using h17)) (eh_ hI.1 hb).1 (by have:=(eh_ hI.1 hb).2.1;omega))] ?_ ?_ (h:=by simp only[go_sem,seval,ml_ (show k<l.length by simpa using h17)];rfl)))
  ·simp at h17;simp[List.take_of_length_le,af_,a2_,ad_];omega
  refine .block (.seq (.rg [] ?_))
  refine .cB (fun h37=>?_) fun h37=>?_
  ·refine .seq (.rg [] ?_)
   refine .ret ⟨.inr rfl,Out.mP Tryz.results189 ?_ ?_⟩
   ·rw[ng_ hs (by simpa using h17) hI.2 (by simpa using h25) (by simpa using h37)];try simp
   rw[ng_ hs (by simpa using h17) hI.2 (by simpa using h25) (by simpa using h37)];(try simp[b7_,al_])
  refine .seq (.rgo [] ?_ ?_ (h:=by simp only[go_sem,seval,ml_ (show k<l.length by simpa using h17)];rfl))
  ·simp at h17;simp;omega
  refine .cB (fun h41=>?_) fun h41=>?_
  ·refine .seq (.rgo [] ?_ ?_ (h:=by simp only[go_sem,seval,ml_ (show k<l.length by simpa using h17)];rfl))
   ·have:=eh_ hI.1 hb;simp at h17;simp;omega
   refine .rgo [] ?_ ?_
   ·have:=eh_ hI.1 hb;simp;omega
   refine .rg [] ?_
   refine⟨k+1,?_,?_,?_⟩
   ·have hk:k<l.length:=(by simpa using h17);have e:=ji_ hk hI.2 (by simpa using h41) (by simpa using h37);exact⟨by omega,by rw[e];exact hI.2⟩
   ·simp at h17;omega
   refine Can.trans (Can.sX 65 20) ?_
   refine Can.trans (Can.sX 69 21) ?_
   refine Can.wk ?_ ?_
   ·(have hk:k<l.length:=(by simpa using h17));(have e:=ji_ hk hI.2 (by simpa using h41) (by simpa using h37));rw[e,ac_ (by omega) (by omega)];simp
   (have hk:k<l.length:=(by simpa using h17));(have e:=ji_ hk hI.2 (by simpa using h41) (by simpa using h37));rw[e];simp[kz_,dn_]
  refine .seq (.rgo [] ?_ ?_ (h:=by simp only[go_sem,seval,ml_ (show k<l.length by simpa using h17)];rfl))
  ·simp at h17;simp;omega
  refine .cB (fun h60=>?_) fun h60=>?_
  ·refine .rgo [] ?_ ?_
   ·have:=eh_ hI.1 hb;simp;omega
   refine .rg [] ?_
   refine⟨k+1,?_,?_,?_⟩
   ·have hk:k<l.length:=(by simpa using h17);have e:=fq_ hk hI.2 (by simpa using h25) (by simpa using h41) (by simpa using h37) (.inl (by simpa using h60));exact⟨by omega,by rw[e];exact hI.2⟩
   ·simp at h17;omega
   refine Can.trans (Can.sX 80 22) ?_
   refine Can.wk ?_ ?_
   ·(have hk:k<l.length:=(by simpa using h17));(have e:=fq_ hk hI.2 (by simpa using h25) (by simpa using h41) (by simpa using h37) (.inl (by simpa using h60)));rw[e,ac_ (by omega) (by omega)];simp
   (have hk:k<l.length:=(by simpa using h17));(have e:=fq_ hk hI.2 (by simpa using h25) (by simpa using h41) (by simpa using h37) (.inl (by simpa using h60)));rw[e,afj_ (by simpa using h60)];simp[dn_]
  refine .seq (.rg [] ?_)
  refine .cB (fun h71=>?_) fun h71=>?_
  ·refine .rgo [] ?_ ?_
   ·have:=eh_ hI.1 hb;simp;omega
   refine .rg [] ?_
   refine⟨k+1,?_,?_,?_⟩
   ·have hk:k<l.length:=(by simpa using h17);have e:=fq_ hk hI.2 (by simpa using h25) (by simpa using h41) (by simpa using h37) (.inr (by simpa using h71));exact⟨by omega,by rw[e];exact hI.2⟩
   ·simp at h17;omega
   refine Can.trans (Can.sX 87 22) ?_
   refine Can.wk ?_ ?_
   ·(have hk:k<l.length:=(by simpa using h17));(have e:=fq_ hk hI.2 (by simpa using h25) (by simpa using h41) (by simpa using h37) (.inr (by simpa using h71)));rw[e,ac_ (by omega) (by omega)];simp
   (have hk:k<l.length:=(by simpa using h17));(have e:=fq_ hk hI.2 (by simpa using h25) (by simpa using h41) (by simpa using h37) (.inr (by simpa using h71)));rw[e,w6_ (F3 k hk (by simpa using h25) (by simpa using h41) (by simpa using h60)) (by simpa using h37)];simp[dn_]
  refine .skip (.rg [] ?_)
  refine⟨k+1,?_,?_,?_⟩
  ·have hk:k<l.length:=(by simpa using h17);have e:=he_ hk hI.2 (by simpa using h25) (by simpa using h41) (by simpa using h37) (by simpa using h60) (by simpa using h71);exact⟨by omega,by rw[e];exact hI.2⟩
  ·simp at h17;omega
  refine Can.wk ?_ ?_
  ·(have hk:k<l.length:=(by simpa using h17));(have e:=he_ hk hI.2 (by simpa using h25) (by simpa using h41) (by simpa using h37) (by simpa using h60) (by simpa using h71));rw[e,ac_ (by omega) (by omega)];simp
  (have hk:k<l.length:=(by simpa using h17));(have e:=he_ hk hI.2 (by simpa using h25) (by simpa using h41) (by simpa using h37) (by simpa using h60) (by simpa using h71));rw[e];simp
 refine .exit (.seq (.rg [] ?_))
 refine .ret ⟨.inr rfl,Out.mP Tryz.results189 ?_ ?_⟩
 ·rw[of_ hs (by simpa using h17) hI.2];try simp
 rw[of_ hs (by simpa using h17) hI.2];(try simp[b7_,al_])
attribute [local go_sem] js_ i8_ cp_ al_ c3_ a9_ tSlE in
theorem afk_ (l:List Bl) (hs:allB l=true) (hl:l.length<4611686018427387904):ACall En 123 [.sl false (bLR l)] [] [.ow 0 1 0 (jd_ l).1.length,.b (jd_ l).2] [⟨3,1,inR (jd_ l).1⟩]:=by
 refine aa_ [33] Tryz.func123 Tryz.ntmps123 fun C=>?_
 refine .seq (.rg [] ?_)
 refine .seq (.seq (.rg [ab_ (a22_ l hs hl)] ?_))
 refine .cB (fun h9=>?_) fun h9=>?_
 ·refine .seq (.rg [] ?_)
  refine .can (Can.ownSlot 2 33 3 1 (by simp only[go_sem,seval]<;>rfl) (by simp only[go_sem,seval]) (by simp only[go_sem,seval]<;>rfl)) ?_
  refine .ret ⟨.inr rfl,Out.mP Tryz.results123 ?_ ?_⟩
  ·rw[os_ (by simpa using h9)];simp
  rw[os_ (by simpa using h9)];simp[inR]
 refine .skip (.seq (.rg [] ?_))
 refine .seqJ (fun u:Unit=>⟨[.no,.no,.no,.no,.sl false (sR (l.map q6_)),.no,.no,.no,.no,.no,.no,.no,.no,.no,.no,.no,.no,.no,.no,.no,.no,.no,.no,.no,.no,.no,.no,.no,.no,.no,.no,.no,.no,.no,.no,.no,.no,.no],ae_ [],us []⟩) (fun u:Unit=>True) ?_ (fun u hJ=>?_)
 ·refine .seq (.rg [] ?_)
  refine .block (.loopK (fun k:Nat=>⟨[.sl false (bLR l),.no,.no,.no,.ow 60 11 0 k,.i .i64 k,.no,.no,.no,.no,.no,.no,.no,.no,.no,.no,.no,.no,.no,.no,.no,.no,.no,.no,.no,.no,.no,.no,.no,.no,.no,.no,.no,.no,.no,.no,.no,.no],ae_ [(60,⟨58,11,sR ((l.map q6_).take k)⟩)],us [60]⟩) (fun k:Nat=>k≤l.length) (fun k:Nat=>l.length - k) (0) ?_ ?_ (fun k hI=>?_))
  ·simp
  ·refine Can.trans (Can.ownSlot 4 60 58 11 (by simp only[go_sem,seval]<;>rfl) (by simp only[go_sem,seval]) (by simp only[go_sem,seval]<;>rfl)) ?_
   refine Can.wk ?_ ?_
   ·trivial
   simp[sR]
  refine .seq (.seq (.rg [] ?_))
  refine .cB (fun h15=>?_) fun h15=>?_
  ·refine .skip (.seq (.block (.seq (.rgo [] ?_ ?_ (h:=by simp only[go_sem,seval,tl_ (show k<l.length by simpa using h15)];rfl)))))
   ·simp at h15;simp;omega
   refine .rgo [] ?_ ?_
   ·have h9':lok l=true:=(by simpa using h9);have:=(da_ h9').2.1;simp[axm_,c7_,dy_];omega
   refine .rg [] ?_
   refine⟨k+1,?_,?_,?_⟩
   ·simp at h15;omega
   ·simp at h15;omega
   refine Can.trans (Can.sX 43 60) ?_
   refine Can.wk ?_ ?_
   ·rw[ac_ (by simp at h15;omega) (by simp at h15;omega)];simp
   (have hk:k<l.length:=(by simpa using h15));rw[List.take_add_one,aim_];simp[sR,List.getElem?_eq_getElem hk,a9_,tSlE,List.getD_eq_getElem?_getD]
  refine .exit ?_
  refine Exists.intro (()) ⟨?_,?_⟩
  ·trivial
  refine Can.trans (Can.frz 60 (by simp only[go_sem,seval]<;>rfl) (by simp only[go_sem,seval]) (by simp only[go_sem,seval]<;>rfl) (by simp only[go_sem,seval]<;>rfl)) ?_
  refine Can.wh ?_;simp at h15;(obtain rfl:k=l.length:=(by omega));simp[List.take_of_length_le,ahm_,dy_,leV,ad_]
 refine .seq (.rg [at_ [] [33] (au2_ l (by simpa using h9))] ?_)
 refine .ret ⟨.inr rfl,Out.mP Tryz.results123 ?_ ?_⟩
 ·trivial
 trivial
end
section
attribute [local go_sem] a2_ al_ a9_ in
theorem an2_ (s:Sl) (N:List Str) (M:List Int) (h:form s.expr ((5:Nat):Int)=true) (h2:s.kind=3→form s.thn ((5:Nat):Int)=true) (hl:N.length=M.length) (hn:N.length≤1000000) :
  ACall En 193 [.ag (sC s),.sl false (ai_ N),.sl false (inR M)] [] [.i .i64 (rk s.expr N M).1,.i .i64 (s1_ (ofS s) N M),.b (c2_ (ofS s) N M).2.2] []:=by
 have e1:(ofS s).expr=s.expr:=rfl
 have e2:(ofS s).thn=s.thn:=rfl
 have e3:(ofS s).kind=s.kind:=rfl
 refine aa_ [] Tryz.func193 Tryz.ntmps193 fun C=>?_
 refine .seq (.rg [] ?_)
 refine .seq (.rg [ab_ (ak8_ 5 s.expr N M h hl hn)] ?_)
 refine .seq (.seq (.rg [] ?_))
 refine .cB (fun h27=>?_) fun h27=>?_
 ·refine .seq (.rg [] ?_)
  refine .ret ⟨.inr rfl,Out.pP Tryz.results193 ?_⟩;unfold c2_ s1_;simp at h27;(by_cases hk:s.kind=3<;>simp_all)
 refine .skip (.seq (.rg [ab_ (ak8_ 5 s.thn N M (h2 (by simp at h27;exact h27.1)) hl hn)] ?_))
 refine .seq (.rg [] ?_)
 refine .ret ⟨.inr rfl,Out.pP Tryz.results193 ?_⟩;unfold c2_ s1_;simp at h27;simp[h27,e1,e2,e3]
attribute [local go_sem] dy_ c3_ a2_ al_ a9_ in
theorem aef_ (l:List Sl) (sm:p5_ l=true) (hl:l.length<4611686018427387904):ACall En 126 [.sl false (sR l)] [] [.ow 0 1 0 (f5_ l).1.length,.b (f5_ l).2] [⟨3,1,inR (f5_ l).1⟩]:=by
 have F1:∀k,pok l=true→k<l.length→¬(l.getD k S0).kind=0→form (l.getD k S0).expr ((5:Nat):Int)=true:=fun k hs hk hk0=>ao_ (mk_ ((bd_ hs).2.2 k hk) hk0)
 have F2:∀k,pok l=true→k<l.length→(l.getD k S0).kind=3→form (l.getD k S0).thn ((5:Nat):Int)=true:=fun k hs hk hk0=>ao_ (o5_ ((bd_ hs).2.2 k hk) hk0)
 have F3:∀k,pok l=true→k<l.length→¬(l.getD k S0).kind=0→¬(l.getD k S0).kind=1→¬(l.getD k S0).kind=2→(l.getD k S0).kind=3:=fun k hs hk a b c=>by have:=af4_ ((bd_ hs).2.2 k hk);omega
 refine aa_ [22] Tryz.func126 Tryz.ntmps126 fun C=>?_
 refine .seq (.rg [] ?_)
 refine .seq (.rg [] ?_)
 refine .seq (.seq (.rg [ab_ (rr_ l sm hl)] ?_))
 refine .cB (fun h15=>?_) fun h15=>?_
 ·refine .seq (.rg [] ?_)
  refine .can (Can.ownSlot 2 22 3 1 (by simp only[go_sem,seval]<;>rfl) (by simp only[go_sem,seval]) (by simp only[go_sem,seval]<;>rfl)) ?_
  refine .ret ⟨.inr rfl,Out.mP Tryz.results126 ?_ ?_⟩
  ·rw[ql_ (by simpa using h15)];simp
  rw[ql_ (by simpa using h15)];simp[inR]
 refine .skip (.seq (.rg [] ?_))
 refine .seq (.rg [] ?_)
 refine .seq (.seq (.rg [] ?_))
 refine .block (.loopK (fun k:Nat=>⟨[.sl false (sR l),.no,.no,.no,.ow 22 1 0 (ar_ ((l.map ofS).take k)).said.length,.ow 20 1 0 (ar_ ((l.map ofS).take k)).names.length,.ow 21 1 0 (ar_ ((l.map ofS).take k)).nums.length,.i .i64 k,.no,.no,.no,.no,.no,.no,.no,.no,.no,.no,.no,.no,.no,.no,.no,.no,.no,.no,.no,.no,.no,.no,.no,.no,.no,.no,.no,.no,.no,.no,.no,.no,.no,.no,.no,.no,.no,.no,.no,.no,.no,.no,.no,.no,.no,.no,.no,.no,.no,.no,.no,.no,.no,.no,.no,.no,.no,.no,.no,.no,.no,.no,.no,.no,.no],ae_ [(20,⟨9,1,ai_ (ar_ ((l.map ofS).take k)).names⟩),(21,⟨3,1,inR (ar_ ((l.map ofS).take k)).nums⟩),(22,⟨3,1,inR (ar_ ((l.map ofS).take k)).said⟩)],us [20,21,22]⟩) (fun k:Nat=>k≤l.length∧(ar_ ((l.map ofS).take k)).ok=true∧pok l=true) (fun k:Nat=>l.length - k) (0) ?_ ?_ (fun k hI=>?_))
 ·exact⟨Nat.zero_le _,by simp[ar_],by simpa using h15⟩
 ·refine Can.trans (Can.ownSlot 5 20 9 1 (by simp only[go_sem,seval]<;>rfl) (by simp only[go_sem,seval]) (by simp only[go_sem,seval]<;>rfl)) ?_
  refine Can.trans (Can.ownSlot 6 21 3 1 (by simp only[go_sem,seval]<;>rfl) (by simp only[go_sem,seval]) (by simp only[go_sem,seval]<;>rfl)) ?_
  refine Can.trans (Can.ownSlot 4 22 3 1 (by simp only[go_sem,seval]<;>rfl) (by simp only[go_sem,seval]) (by simp only[go_sem,seval]<;>rfl)) ?_
  refine Can.wk ?_ ?_
  ·simp[ar_]
  simp[ar_,ai_,inR]
 refine .seq (.seq (.rg [] ?_))
 refine .cB (fun h22=>?_) fun h22=>?_
 ·refine .skip (.seq (.block (.seq (.rgo [] ?_ ?_ (h:=by simp only[go_sem,seval,j6_ (show k<l.length by simpa using h22),a9_];rfl)))))
  ·((simp at h22;simp;omega))
  refine .seq (.seq (.rg [] ?_))
  refine .cB (fun h31=>?_) fun h31=>?_
  ·refine .exit (.rg [] ?_)
   refine⟨k+1,?_,?_,?_⟩
   ·have hk:k<l.length:=(by simpa using h22);have e:=hj_ hk (by simpa using h31);exact⟨by omega,by rw[e];exact hI.2.1,hI.2.2⟩
   ·simp at h22;omega
   refine Can.wk ?_ ?_
   ·(have hk:k<l.length:=(by simpa using h22));(have e:=hj_ hk (by simpa using h31));rw[e,ac_ (by omega) (by omega)];simp
   (have hk:k<l.length:=(by simpa using h22));(have e:=hj_ hk (by simpa using h31));rw[e];simp
  refine .skip (.seq (.rgo [kv_ (an2_ (l.getD k S0) (ar_ ((l.map ofS).take k)).names (ar_ ((l.map ofS).take k)).nums (F1 k hI.2.2 (by simpa using h22) (by simpa using h31)) (F2 k hI.2.2 (by simpa using h22)) (dr_ hI.1 (bd_ hI.2.2).2.1).1 (by have:=(dr_ hI.1 (bd_ hI.2.2).2.1).2.1;omega))] ?_ ?_))
  ·((simp[List.take_of_length_le,af_,a2_,ad_];done))
  refine .block (.seq (.rg [] ?_))
  refine .cB (fun h40=>?_) fun h40=>?_
  ·refine .seq (.rg [] ?_)
   refine .ret ⟨.inr rfl,Out.mP Tryz.results126 ?_ ?_⟩
   ·rw[nf_ hI.2.2 (by simpa using h22) hI.2.1 (by simpa using h31) (by simpa using h40)];try simp
   rw[nf_ hI.2.2 (by simpa using h22) hI.2.1 (by simpa using h31) (by simpa using h40)];(try simp[b7_,al_])
  refine .seq (.rg [] ?_)
  refine .cB (fun h44=>?_) fun h44=>?_
  ·refine .seq (.rgo [] ?_ ?_)
   ·((have:=dr_ hI.1 (bd_ hI.2.2).2.1;simp;omega))
   refine .rgo [] ?_ ?_
   ·((have:=dr_ hI.1 (bd_ hI.2.2).2.1;simp;omega))
   refine .rg [] ?_
   refine⟨k+1,?_,?_,?_⟩
   ·have hk:k<l.length:=(by simpa using h22);have e:=ir_ hk hI.2.1 (by simpa using h44) (by simpa using h40);exact⟨by omega,by rw[e];exact hI.2.1,hI.2.2⟩
   ·simp at h22;omega
   refine Can.trans (Can.sX 62 20) ?_
   refine Can.trans (Can.sX 66 21) ?_
   refine Can.wk ?_ ?_
   ·(have hk:k<l.length:=(by simpa using h22));(have e:=ir_ hk hI.2.1 (by simpa using h44) (by simpa using h40));rw[e,ac_ (by omega) (by omega)];simp
   (have hk:k<l.length:=(by simpa using h22));(have e:=ir_ hk hI.2.1 (by simpa using h44) (by simpa using h40));rw[e];simp[kz_,dn_]
  refine .seq (.rg [] ?_)
  refine .cB (fun h57=>?_) fun h57=>?_
  ·refine .rgo [] ?_ ?_
   ·((have:=dr_ hI.1 (bd_ hI.2.2).2.1;simp;omega))
   refine .rg [] ?_
   refine⟨k+1,?_,?_,?_⟩
   ·have hk:k<l.length:=(by simpa using h22);have e:=e9_ hk hI.2.1 (by simpa using h31) (by simpa using h44) (by simpa using h40) (.inl (by simpa using h57));exact⟨by omega,by rw[e];exact hI.2.1,hI.2.2⟩
   ·simp at h22;omega
   refine Can.trans (Can.sX 74 22) ?_
   refine Can.wk ?_ ?_
   ·(have hk:k<l.length:=(by simpa using h22));(have e:=e9_ hk hI.2.1 (by simpa using h31) (by simpa using h44) (by simpa using h40) (.inl (by simpa using h57)));rw[e,ac_ (by omega) (by omega)];simp
   (have hk:k<l.length:=(by simpa using h22));(have e:=e9_ hk hI.2.1 (by simpa using h31) (by simpa using h44) (by simpa using h40) (.inl (by simpa using h57)));rw[e,afj_ (b:=ofS (l.getD k S0)) (by simpa using h57)];simp[dn_]
  refine .seq (.rg [] ?_)
  refine .cB (fun h65=>?_) fun h65=>?_
  ·refine .rgo [] ?_ ?_
   ·((have:=dr_ hI.1 (bd_ hI.2.2).2.1;simp;omega))
   refine .rg [] ?_
   refine⟨k+1,?_,?_,?_⟩
   ·have hk:k<l.length:=(by simpa using h22);have e:=e9_ hk hI.2.1 (by simpa using h31) (by simpa using h44) (by simpa using h40) (.inr (by simpa using h65));exact⟨by omega,by rw[e];exact hI.2.1,hI.2.2⟩
   ·simp at h22;omega
   refine Can.trans (Can.sX 81 22) ?_
   refine Can.wk ?_ ?_
   ·(have hk:k<l.length:=(by simpa using h22));(have e:=e9_ hk hI.2.1 (by simpa using h31) (by simpa using h44) (by simpa using h40) (.inr (by simpa using h65)));rw[e,ac_ (by omega) (by omega)];simp
   (have hk:k<l.length:=(by simpa using h22));(have e:=e9_ hk hI.2.1 (by simpa using h31) (by simpa using h44) (by simpa using h40) (.inr (by simpa using h65)));rw[e,w6_ (b:=ofS (l.getD k S0)) (F3 k hI.2.2 hk (by simpa using h31) (by simpa using h44) (by simpa using h57)) (by simpa using h40)];simp[dn_]
  refine .skip (.rg [] ?_)
  refine⟨k+1,?_,?_,?_⟩
  ·have hk:k<l.length:=(by simpa using h22);have e:=hg_ hk hI.2.1 (by simpa using h31) (by simpa using h44) (by simpa using h40) (by simpa using h57) (by simpa using h65);exact⟨by omega,by rw[e];exact hI.2.1,hI.2.2⟩
  ·simp at h22;omega
  refine Can.wk ?_ ?_
  ·(have hk:k<l.length:=(by simpa using h22));(have e:=hg_ hk hI.2.1 (by simpa using h31) (by simpa using h44) (by simpa using h40) (by simpa using h57) (by simpa using h65));rw[e,ac_ (by omega) (by omega)];simp
  (have hk:k<l.length:=(by simpa using h22));(have e:=hg_ hk hI.2.1 (by simpa using h31) (by simpa using h44) (by simpa using h40) (by simpa using h57) (by simpa using h65));rw[e];simp
 refine .exit (.seq (.rg [] ?_))
 refine .ret ⟨.inr rfl,Out.mP Tryz.results126 ?_ ?_⟩
 ·rw[pg_ hI.2.2 (by simpa using h22) hI.2.1];try simp
 rw[pg_ hI.2.2 (by simpa using h22) hI.2.1];(try simp[b7_,al_])
theorem ajd_ (l:List Sl) (hs:p5_ l=true) (hl:l.length<4611686018427387904):ACall En 126 [.sl false (sR l)] [] [.sl false (inR (f5_ l).1),.b (f5_ l).2] []:=
 ACall.frz1 (aef_ l hs hl) (by simp[er_,frz,a2_,List.take_of_length_le])
end
section
open Go.RowKit
theorem aa9_ {φ:Phi} {S:Nat→Prop} {w:World}:∀l:List Str,VRr φ S w 1 (ai_ l) (l.map fun s=>Value.string ⟨s.toArray⟩)
 |[]=>by simp only[ai_,List.map_nil];exact VRr.nil
 |s::l=>by
  simp only[ai_,List.map_cons]
  exact VRr.cons (ys:=[.string ⟨s.toArray⟩]) rfl (.cons (by simp only[VR]) .nil) (fun u hu=>by simp at hu;subst hu;rfl) (aa9_ l)
theorem axg_ (s:Str) (hs:s.length≤1000000):ACall En 13 [.s s,.s [10]] [] [.sl false (ai_ (spl s))] []:=by
 refine gb_ (fn:=Tryz.f13) Tryz.func13 rfl rfl fun S w xs hx _ ⟨B,hB,_⟩=>?_
 simp only[VRs,VR]at hx
 obtain⟨x,r,e1,rfl,y,q,e2,rfl,rfl⟩:=hx
 subst e2
 obtain rfl:xs=#[.string ⟨s.toArray⟩,.string ⟨[10].toArray⟩]:=by apply Array.ext';simpa using e1
 obtain⟨m,hm⟩:=hB.maxl
 have hd:(⟨s.toArray⟩:ByteArray).data.toList=s:=by simp
 have hk:(Lib.splitB ⟨[10].toArray⟩ 0 (Lib.countB ⟨s.toArray⟩ ⟨[10].toArray⟩) ⟨s.toArray⟩).map (·.data.toList)=spl s:=by
  rw[Lib.splitB_data]
  exact yx_ s.length s (Nat.le_refl _)
 have hv:(Lib.splitB ⟨[10].toArray⟩ 0 (Lib.countB ⟨s.toArray⟩ ⟨[10].toArray⟩) ⟨s.toArray⟩).map Value.string=(spl s).map fun s=>Value.string ⟨s.toArray⟩:=by
  rw[←hk,List.map_map]
  exact List.map_congr_left fun b _=>by cases b;simp
 have hl:(spl s).length=Lib.countB ⟨s.toArray⟩ ⟨[10].toArray⟩+1:=by
  rw[←hk,List.length_map]
  exact Lib.splitB_all _ (by simp[ByteArray.size]) 0 _ _ rfl
 refine(Tryz.strings_Split ⟨s.toArray⟩ ⟨[10].toArray⟩ m w (by simp[ByteArray.size];omega) hm (by simp[ByteArray.size])).mono ?_
 rintro e w' ⟨rfl,rfl⟩
 rw[hv,←hl]
 refine⟨[_],rfl,Joins.below_alloc1 _ _,.cons ?_ .nil⟩
 have:=tz_ s
 simp only[VR,af_]
 refine⟨some ⟨w.heap.size,0,none⟩,(spl s).length,1,(spl s).map fun s=>.string ⟨s.toArray⟩,rfl,Nat.le_refl _,by unfold maxLen;omega,fun e=>(by simp at e),fun _=>⟨w.heap.size,0,rfl,.inr (Nat.le_refl _),by show _<(w.heap.push _).size;rw[Array.size_push];exact Nat.lt_succ_self _,fun j u hu=>?_⟩,aa9_ (spl s)⟩
 rw[Joins.cell_alloc_mark_at w _ _ _ _ _ rfl]
 simpa using hu
end
section
open Go.RowKit
def ps_ (s:Str):Bool:=s.contains 10
theorem azu_ (s:Str):ACall En 127 [.s s,.s [10]] [] [.b (ps_ s)] []:=by
 refine gb_ (fn:=Tryz.f127) Tryz.func127 rfl rfl fun S w xs hx _ _=>?_
 simp only[VRs,VR]at hx
 obtain⟨x,r,e1,rfl,y,q,e2,rfl,rfl⟩:=hx
 subst e2
 obtain rfl:xs=#[.string ⟨s.toArray⟩,.string ⟨[10].toArray⟩]:=by apply Array.ext';simpa using e1
 refine(Tryz.strings_Contains_one ⟨s.toArray⟩ 10 w).mono ?_
 rintro e w' ⟨rfl,rfl⟩
 refine⟨[_],rfl,Below.refl _ _,.cons ?_ .nil⟩
 simp only[VR,ps_]
 rw[Lib.contains_iff_indexByte]
end
section
def Dn (s' s:RS) (k:Int):Prop:=s.deep≤s'.deep∧s'.deep+s'.left.length≤s.deep+s.left.length+k∧s'.left.length≤s.left.length
theorem Dn.refl (s:RS):Dn s s 0:=⟨Int.le_refl _,by omega,Nat.le_refl _⟩
theorem Dn.trans {a b c:RS} {k m:Int} (h:Dn a b k) (g:Dn b c m):Dn a c (k+m):=⟨by have:=h.1;have:=g.1;omega,by have:=h.2.1;have:=g.2.1;omega,by have:=h.2.2;have:=g.2.2;omega⟩
theorem Dn.le {a b:RS} {k m:Int} (h:Dn a b k) (hm:k≤m):Dn a b m:=⟨h.1,by have:=h.2.1;omega,h.2.2⟩
theorem Dn.next (s:RS):Dn (a7_ s) s (if s.left=[]then 0 else -1):=by
 unfold a7_ Dn
 cases h:s.left with
 |nil=>simp[h]
 |cons x r=>simp[h];omega
theorem Dn.nx (s:RS):Dn (a7_ s) s 0:=(Dn.next s).le (by split<;>omega)
theorem Dn.as (s:RS) (e:E):Dn (asR s e).2 s 0:=by
 have h1:=amq_ s e
 have h2:=avh_ s e
 exact⟨by omega,by omega,h1⟩
theorem Dn.bad (s:RS) (b:Bool):Dn { s with bad:=b } s 0:=⟨Int.le_refl _,by dsimp only;omega,Nat.le_refl _⟩
theorem asq_:∀n:Nat,(∀t s,Dn (b4_ n t s).2 s 0)∧(∀t e s,Dn (dh_ n t e s).2 s 0)∧(∀s,Dn (fy_ n s).2 s 0)∧(∀w s,Dn (en_ n w s).2 s (if w=[40]then 1 else 0))
 |0=>⟨fun t s=>by simp only[b4_];exact Dn.refl s,fun t e s=>by simp only[dh_];exact Dn.refl s,fun s=>by simp only[fy_];exact Dn.refl s,fun w s=>by simp only[en_];exact(Dn.refl s).le (by split<;>omega)⟩
 |n+1=>by
  obtain⟨h1,h2,h3,h4⟩:=asq_ n
  refine⟨fun t s=>?_,fun t e s=>?_,fun s=>?_,fun w s=>?_⟩
  ·simp only[b4_]
   split
   ·exact h3 s
   exact((h2 t _ _).trans (h1 (t+1) s)).le (by omega)
  ·simp only[dh_]
   split
   ·exact(((h2 t _ _).trans (h1 (t+1) _)).trans (Dn.nx s)).le (by omega)
   exact Dn.refl s
  ·simp only[fy_]
   refine(((Dn.as _ _).trans (h4 (br_ s) (a7_ s))).trans (Dn.next s)).le ?_
   unfold br_
   cases hl:s.left with
   |nil=>simp
   |cons x r=>simp only[reduceCtorEq,if_false];split<;>omega
  simp only[en_]
  split
  ·split
   ·exact⟨by dsimp only;omega,by dsimp only;omega,Nat.le_refl _⟩
   have hD:Dn { s with deep:=s.deep+1 } s 1:=⟨by dsimp only;omega,by dsimp only;omega,Nat.le_refl _⟩
   dsimp only
   split
   ·exact((h1 1 _).trans hD).le (by omega)
   have q:=((Dn.nx (b4_ n 1 { s with deep:=s.deep+1 }).2).trans ((h1 1 _).trans hD)).le (m:=1) (by omega)
   exact⟨q.1,q.2.1,q.2.2⟩
  split
  ·exact Dn.refl s
  split
  ·exact Dn.refl s
  exact Dn.bad s true
def smW (l:List Str):Prop:=∀w∈l,w.length≤281474976710656
theorem jg_ {s:RS} (h:smW s.left):smW (a7_ s).left∧(br_ s).length≤281474976710656:=by
 unfold a7_ br_
 cases hl:s.left with
 |nil=>simp[smW,hl]
 |cons x r=>rw[hl]at h;exact⟨fun w hw=>h w (List.mem_cons_of_mem _ hw),h x List.mem_cons_self⟩
theorem ai3_ {a b:E} {k n:Int} {s:Str} (hs:s.length<4611686018427387904) (ha:sm a=true) (hb:sm b=true):sm (.mk k n s [a,b])=true:=by simp[sm,sms,ha,hb,hs]
theorem ai4_ {a:E} {k n:Int} {s:Str} (hs:s.length<4611686018427387904) (ha:sm a=true):sm (.mk k n s [a])=true:=by simp[sm,sms,ha,hs]
theorem tw_ {k n:Int} {s:Str} (hs:s.length<4611686018427387904):sm (.mk k n s [])=true:=by simp[sm,sms,hs]
theorem avc_:∀(l:List Str) (e:E) (d:Int),smW l→sm e=true→sm (asL l e d).1=true∧smW (asL l e d).2.left
 |[],e,d,h,he=>by simp only[asL];exact⟨he,h⟩
 |[w],e,d,h,he=>by
  simp only[asL];split
  ·exact⟨ai4_ (by simp) he,fun w hw=>by cases hw⟩
  exact⟨he,h⟩
 |w::t::r,e,d,h,he=>by
  simp only[asL];split
  ·exact avc_ r _ d (fun x hx=>h x (by simp[hx])) (ai4_ (Nat.lt_of_le_of_lt (h t (by simp)) (by decide)) he)
  exact⟨he,h⟩
theorem a2g_ (s:RS) (e:E) (h:smW s.left) (he:sm e=true):sm (asR s e).1=true∧smW (asR s e).2.left:=by
 unfold asR;split
 ·exact⟨he,h⟩
 exact avc_ _ _ _ h he
theorem i_sm:∀n:Nat,(∀t s,smW s.left→sm (b4_ n t s).1=true∧smW (b4_ n t s).2.left)∧(∀t e s,sm e=true→smW s.left→sm (dh_ n t e s).1=true∧smW (dh_ n t e s).2.left)∧(∀s,smW s.left→sm (fy_ n s).1=true∧smW (fy_ n s).2.left)∧(∀w s,w.length<4611686018427387904→smW s.left→sm (en_ n w s).1=true∧smW (en_ n w s).2.left)
 |0=>⟨fun t s h=>by simp only[b4_];exact⟨by decide,h⟩,fun t e s he h=>by simp only[dh_];exact⟨he,h⟩,fun s h=>by simp only[fy_];exact⟨by decide,h⟩,fun w s hw h=>by simp only[en_];exact⟨by decide,h⟩⟩
 |n+1=>by
  obtain⟨h1,h2,h3,h4⟩:=i_sm n
  refine⟨fun t s h=>?_,fun t e s he h=>?_,fun s h=>?_,fun w s hw h=>?_⟩
  ·simp only[b4_]
   split
   ·exact h3 s h
   exact h2 t _ _ (h1 (t+1) s h).1 (h1 (t+1) s h).2
  ·simp only[dh_]
   split
   ·have q:=h1 (t+1) (a7_ s) (jg_ h).1
    exact h2 t _ _ (ai3_ (Nat.lt_of_le_of_lt (jg_ h).2 (by decide)) he q.1) q.2
   exact⟨he,h⟩
  ·simp only[fy_]
   have q:=h4 (br_ s) (a7_ s) (Nat.lt_of_le_of_lt (jg_ h).2 (by decide)) (jg_ h).1
   exact a2g_ _ _ q.2 q.1
  simp only[en_]
  split
  ·split
   ·exact⟨(show sm E0=true by decide),h⟩
   have q:=h1 1 { s with deep:=s.deep+1 } h
   dsimp only
   refine⟨q.1,?_⟩
   split
   ·exact q.2
   exact(jg_ q.2).1
  split
  ·exact⟨tw_ (by simp),h⟩
  split
  ·exact⟨tw_ hw,h⟩
  exact⟨(show sm E0=true by decide),h⟩
end
section
theorem j4_ {w:List Str} {k:Nat} (h:w.getD k []≠[]):k<w.length:=by
 rcases Nat.lt_or_ge k w.length with q|q
 ·exact q
 exact absurd (by rw[List.getD_eq_getElem?_getD,List.getElem?_eq_none q];rfl) h
theorem ard_ {w:List Str} {k:Nat} (h:a8_ (w.getD k [])=true):k<w.length:=j4_ fun e=>by rw[e]at h;simp only[a8_,Bool.and_eq_true,beq_iff_eq]at h;exact fd_ _ h.2
theorem a0f_ {w:List Str} {k:Nat} (h:gi_ (w.getD k [])=true):k<w.length:=j4_ fun e=>by rw[e]at h;exact absurd h (by decide)
theorem vc_ {w:List Str} {k:Nat} (h:ey_ (w.getD k [])=true):k<w.length:=j4_ fun e=>by rw[e]at h;exact absurd h (by decide)
theorem aaz_ {w:List Str} (h:smW w) (k:Nat):(w.getD k []).length<4611686018427387904:=by
 rcases Nat.lt_or_ge k w.length with q|q
 ·have:=h _ (ag_ (d:=[]) q);omega
 rw[List.getD_eq_getElem?_getD,List.getElem?_eq_none q];simp
theorem s_as (w:List Str) (hw:smW w):∀n k e,sm e=true→sm (sAs n w k e).1=true∧∀b,(sAs n w k e).2=some b→k≤b∧(b≤k∨b≤w.length)
 |0,k,e,h=>⟨h,fun b q=>by simp[sAs]at q⟩
 |n+1,k,e,h=>by
  unfold sAs
  split
  ·split
   ·rename_i h2
    obtain⟨q1,q2⟩:=s_as w hw n (k+2) (.mk 4 0 (w.getD (k+1) []) [e]) (ai4_ (aaz_ hw _) h)
    have hk:=vc_ h2
    exact⟨q1,fun b hb=>by have:=q2 b hb;omega⟩
   exact⟨h,fun b q=>by simp at q⟩
  exact⟨h,fun b q=>by simp at q;omega⟩
theorem a1u_:sm E0=true:=by decide
theorem ub_ (w:List Str) (hw:smW w):∀n:Nat,
  (∀k d,sm (e2_ n w k d).1=true∧∀b,(e2_ n w k d).2=some b→k+1≤b∧b≤w.length)∧
  (∀k t d,sm (sLp n w k t d).1=true∧∀b,(sLp n w k t d).2=some b→k+1≤b∧b≤w.length)∧
  (∀t d e o,sm e=true→sm (e0_ n w t d e o).1=true∧∀b,(e0_ n w t d e o).2=some b→∃k,o=some k∧k≤b∧(b≤k∨b≤w.length))∧
  (∀k d,sm (sL1 n w k d).1=true∧∀b,(sL1 n w k d).2=some b→k+1≤b∧b≤w.length)
 |0=>⟨fun k d=>⟨by simp only[e2_];decide,fun b q=>by simp[e2_]at q⟩,fun k t d=>⟨by simp only[sLp];decide,fun b q=>by simp[sLp]at q⟩,fun t d e o h=>⟨by simp only[e0_];exact h,fun b q=>by simp[e0_]at q⟩,fun k d=>⟨by simp only[sL1];decide,fun b q=>by simp[sL1]at q⟩⟩
 |n+1=>by
  obtain⟨a1,a2,a3,a4⟩:=ub_ w hw n
  refine⟨fun k d=>?_,fun k t d=>?_,fun t d e o h=>?_,fun k d=>?_⟩
  ·unfold e2_
   split
   ·rename_i h
    have hk:=ard_ h
    obtain⟨q1,q2⟩:=s_as w hw n (k+1) (.mk 1 (am_ (w.getD k [])) [] []) (tw_ (by simp))
    exact⟨q1,fun b hb=>by have:=q2 b hb;omega⟩
   split
   ·rename_i h
    have hk:=a0f_ h
    obtain⟨q1,q2⟩:=s_as w hw n (k+1) (.mk 2 0 (w.getD k []) []) (tw_ (aaz_ hw _))
    exact⟨q1,fun b hb=>by have:=q2 b hb;omega⟩
   split
   ·have q:=a4 (k+1) (d - 1)
    split
    ·exact⟨q.1,fun b hb=>by simp at hb⟩
    rename_i b0 hb0
    have q3:=q.2 b0 hb0
    split
    ·rename_i h41
     have hin:b0<w.length:=j4_ (by rw[h41];simp)
     obtain⟨r1,r2⟩:=s_as w hw n (b0+1) _ q.1
     exact⟨r1,fun b hb=>by have:=r2 b hb;omega⟩
    exact⟨q.1,fun b hb=>by simp at hb⟩
   exact⟨a1u_,fun b hb=>by simp at hb⟩
  ·unfold sLp
   split
   ·exact a1 k d
   have q:=a2 k (t+1) d
   obtain⟨r1,r2⟩:=a3 t d _ (sLp n w k (t+1) d).2 q.1
   refine⟨r1,fun b hb=>?_⟩
   obtain⟨k0,e0,h0,h1⟩:=r2 b hb
   have:=q.2 k0 e0
   omega
  ·cases o with
   |none=>exact⟨by simp only[e0_];exact h,fun b q=>by simp[e0_]at q⟩
   |some k=>
    unfold e0_
    split
    ·rename_i ht
     have q:=a2 (k+1) (t+1) d
     obtain⟨r1,r2⟩:=a3 t d (.mk 3 0 (w.getD k []) [e,(sLp n w (k+1) (t+1) d).1]) (sLp n w (k+1) (t+1) d).2 (ai3_ (aaz_ hw _) h q.1)
     refine⟨r1,fun b hb=>?_⟩
     obtain⟨k0,e0,h0,h1⟩:=r2 b hb
     have:=q.2 k0 e0
     exact⟨k,rfl,by omega,by omega⟩
    exact⟨h,fun b hb=>by simp at hb;exact⟨k,rfl,by omega,by omega⟩⟩
  unfold sL1
  have q:=a2 k 2 d
  split
  ·exact⟨q.1,fun b hb=>by simp at hb⟩
  rename_i b0 hb0
  have q3:=q.2 b0 hb0
  split
  ·have r:=a2 (b0+1) 2 d
   refine⟨ai3_ (by simp) q.1 r.1,fun b hb=>?_⟩
   have:=r.2 b hb;omega
  exact⟨q.1,fun b hb=>by simp at hb;omega⟩
def oN:Option Nat→Int
 |none=> -1
 |some b=>b
end
section
abbrev rsB (s:RS):Blk:=⟨236,3,[[.sl false (ai_ s.left),.b s.bad,.i .i64 s.deep]]⟩
attribute [local go_sem] e3_ ep_ in
theorem q9_ (s:RS) (hl:s.left.length<4611686018427387904):ACall En 294 [.pt 0 3 0 0] [rsB s] [.s (br_ s)] [rsB (a7_ s)]:=by
 obtain⟨left,bad,deep⟩:=s
 cases left with
 |nil=>
 refine aa_ [0] Tryz.func294 Tryz.ntmps294 fun C=>?_
 refine .seq (.rg [] ?_)
 refine .seq (.seq (.rg [] ?_))
 refine .cB (fun h9=>?_) fun h9=>?_
 ·refine .seq (.rg [] ?_)
  refine .seq (.rg [] ?_)
  refine .ret ⟨.inr rfl,Out.mP Tryz.results294 ?_ ?_⟩
  ·rfl
  simp[a7_,e3_]
 ·exact absurd h9 (by simp)
 |cons x r=>
 refine aa_ [0] Tryz.func294 Tryz.ntmps294 fun C=>?_
 refine .seq (.rg [] ?_)
 refine .seq (.seq (.rg [] ?_))
 refine .cB (fun h9=>?_) fun h9=>?_
 ·simp at h9;omega
 refine .skip (.seq (.rg [] ?_))
 refine .seq (.rgo [] ?_ ?_)
 ·refine⟨⟨by omega,by omega⟩,.inr fun q hq=>?_⟩;rcases List.mem_cons.1 hq with rfl|hq;rfl;exact v4_ hq
 refine .seq (.rg [] ?_)
 refine .ret ⟨.inr rfl,Out.mP Tryz.results294 ?_ ?_⟩
 ·rfl
 simp[a7_,List.take_of_length_le,af_]
attribute [local go_sem] asO e3_ ep_ wAs in
theorem at_a (s:RS) (hl:s.left.length<4611686018427387904):ACall En 312 [.pt 0 3 0 0,.sl false [[.s [97,115]]]] [rsB s] [.b (!s.bad&&(!s.left.isEmpty&&br_ s==wAs))] [rsB s]:=by
 obtain⟨left,bad,deep⟩:=s
 cases left with
 |nil=>
 refine aa_ [0] Tryz.func312 Tryz.ntmps312 fun C=>?_
 refine .seq (.rg [] ?_)
 refine .seq (.rgS [25] [asO En { v:=.s [] },ab_ (oc_ [wAs] [] (by decide))] ?_)
 refine .ret ⟨.inr rfl,Out.mP Tryz.results312 ?_ ?_⟩
 ·trivial
 ·simp[e3_]
 |cons x r=>
 refine aa_ [0] Tryz.func312 Tryz.ntmps312 fun C=>?_
 refine .seq (.rg [] ?_)
 refine .seq (.rg [ab_ (oc_ [wAs] x (by decide))] ?_)
 refine .ret ⟨.inr rfl,Out.mP Tryz.results312 ?_ ?_⟩
 ·simp[br_,wAs]
 simp[ep_]
end
section
def okS2 (s:RS):Prop:=smW s.left∧0≤s.deep∧s.deep+s.left.length≤1000000
theorem okS2.of {s s':RS} (h:okS2 s) (d:Dn s' s 0) (w:smW s'.left):okS2 s':=⟨w,by have:=d.1;have:=h.2.1;omega,by have:=d.2.1;have:=h.2.2;omega⟩
def alk_ (n:Nat):Prop:=∀(t:Nat) (s:RS),t≤4→okS2 s→10 * s.left.length+10 - t≤n→ACall En 254 [.pt 0 3 0 0,.i .i64 t] [rsB s] [.ag (eC (b4_ n t s).1)] [rsB (b4_ n t s).2]
def ajm_ (n:Nat):Prop:=∀(s:RS),okS2 s→10 * s.left.length+5≤n→ACall En 293 [.pt 0 3 0 0] [rsB s] [.ag (eC (fy_ n s).1)] [rsB (fy_ n s).2]
theorem k5_ {s:RS} (h:okS2 s):okS2 (a7_ s):=h.of (Dn.nx s) (jg_ h.1).1
theorem aj1_ {s:RS} (h:okS2 s) (n t:Nat):okS2 (b4_ n t s).2:=h.of ((asq_ n).1 t s) ((i_sm n).1 t s h.1).2
theorem mn_ {s:RS} (h:s.left≠[]):(a7_ s).left.length+1=s.left.length:=by
 unfold a7_
 cases hl:s.left with
 |nil=>exact absurd hl h
 |cons x r=>rfl
theorem ahf_ {s:RS} (h:s.left≠[]):(ai_ s.left).getD 0 []=[.s (br_ s)]:=by
 unfold br_
 cases hl:s.left with
 |nil=>exact absurd hl h
 |cons x r=>rfl
theorem av4_ {j t:Nat} {e:E} {s:RS} (h:((!s.bad&&decide ((s.left.length:Int) > 0))&&ak_ (br_ s)==(t:Int))=true):dh_ (j+1) t e s=dh_ j t (.mk 3 0 (br_ s) [e,(b4_ j (t+1) (a7_ s)).1]) (b4_ j (t+1) (a7_ s)).2∧s.left≠[]:=by
 simp only[Bool.and_eq_true,Bool.not_eq_true',decide_eq_true_eq,beq_iff_eq]at h
 have hne:s.left≠[]:=by intro e;rw[e]at h;simp at h
 simp only[dh_]
 rw[if_pos ⟨h.1.1,hne,h.2⟩]
 exact⟨rfl,hne⟩
theorem ato_ {j t:Nat} {e:E} {s:RS} (h:((!s.bad&&decide ((s.left.length:Int) > 0))&&ak_ (br_ s)==(t:Int))=false):dh_ (j+1) t e s=(e,s):=by
 simp only[dh_]
 rw[if_neg]
 rintro⟨a,b,c⟩
 rw[a,c]at h
 cases hl:s.left with
 |nil=>exact b hl
 |cons x r=>rw[hl]at h;simp at h
theorem aqu_ {s:RS} (h:(!s.bad&&decide ((s.left.length:Int) > 0))=true):s.left≠[]:=by intro e;rw[e]at h;simp at h
theorem a1t_ {s:RS} (h:(!s.bad&&decide ((s.left.length:Int) > 0))=true):(0:Int)<s.left.length:=by simp at h;omega
theorem ag1_ {s:RS} (h:s.left≠[]):((ai_ s.left).getD 0 []).length=1:=by rw[ahf_ h];rfl
theorem a06_ {s:RS} (h:s.left≠[]):((ai_ s.left).getD 0 []).getD 0 .no = .s (br_ s):=by rw[ahf_ h];rfl
def LI (n t:Nat) (s:RS) (q:Nat × E × RS):Prop:=okS2 q.2.2∧10 * q.2.2.left.length+1≤q.1∧q.1≤n∧dh_ n t (b4_ n (t+1) s).1 (b4_ n (t+1) s).2=dh_ q.1 t q.2.1 q.2.2
def LN (t:Nat) (q:Nat × E × RS):Nat × E × RS:=(q.1 - 1,.mk 3 0 (br_ q.2.2) [q.2.1,(b4_ (q.1 - 1) (t+1) (a7_ q.2.2)).1],(b4_ (q.1 - 1) (t+1) (a7_ q.2.2)).2)
theorem al5_ {n t:Nat} {s:RS} {q:Nat × E × RS} (h8:((t:Int)==4)=false) (hI:LI n t s q) (h:((!q.2.2.bad&&decide ((q.2.2.left.length:Int) > 0))&&ak_ (br_ q.2.2)==(t:Int))=false):b4_ (n+1) t s=q.2:=by
 obtain⟨j,e,s'⟩:=q
 obtain⟨h1,h2,h3,h4⟩:=hI
 dsimp only at h1 h2 h3 h4 h ⊢
 obtain⟨i,rfl⟩:∃i,j=i+1:=⟨j - 1,by omega⟩
 rw[tp_ (by simp at h8;omega),h4,ato_ h]
theorem ae6_ {n t:Nat} {s:RS} {q:Nat × E × RS} (hI:LI n t s q) (h:((!q.2.2.bad&&decide ((q.2.2.left.length:Int) > 0))&&ak_ (br_ q.2.2)==(t:Int))=true):LI n t s (LN t q)∧(LN t q).2.2.left.length<q.2.2.left.length:=by
 obtain⟨j,e,s'⟩:=q
 obtain⟨h1,h2,h3,h4⟩:=hI
 unfold LI LN
 dsimp only at h1 h2 h3 h4 h ⊢
 obtain⟨i,rfl⟩:∃i,j=i+1:=⟨j - 1,by omega⟩
 obtain⟨g1,g2⟩:=av4_ (j:=i) (e:=e) h
 have q1:=mn_ g2
 have q2:=(akm_ i).1 (t+1) (a7_ s')
 simp only[Nat.add_sub_cancel]
 exact⟨⟨aj1_ (k5_ h1) _ _,by omega,by omega,by rw[h4,g1]⟩,by omega⟩
attribute [local go_sem] asO aw_ a5_ af_ in
theorem ajt_ (n:Nat) (ihL:∀j,j<n+1→alk_ j) (ihH:∀j,j<n+1→ajm_ j):alk_ (n+1):=fun t s ht hs hn=>by
 obtain⟨s1,s2,s3⟩:=hs
 have hlen:s.left.length<4611686018427387904:=by omega
 have L1:t<4→okS2 (b4_ n (t+1) s).2∧(b4_ n (t+1) s).2.left.length≤s.left.length:=fun _=>⟨aj1_ ⟨s1,s2,s3⟩ n (t+1),(akm_ n).1 (t+1) s⟩
 have LJ:∀q:Nat × E × RS,okS2 q.2.2→10 * q.2.2.left.length+1≤q.1→q.1≤n→q.2.2.left≠[]→t<4→ACall En 254 [.pt 0 3 0 0,.i .i64 ((t+1:Nat):Int)] [rsB (a7_ q.2.2)] [.ag (eC (b4_ (q.1 - 1) (t+1) (a7_ q.2.2)).1)] [rsB (b4_ (q.1 - 1) (t+1) (a7_ q.2.2)).2]:=fun q h1 h2 h3 h4 h5=>by
  have:=mn_ h4
  exact ihL (q.1 - 1) (by omega) (t+1) (a7_ q.2.2) (by omega) (k5_ h1) (by omega)
 have hw:IntKind.i64.wrap ((t:Int)+1)=((t+1:Nat):Int):=by rw[ac_ (by omega) (by omega)];rfl
 refine aa_ [0] Tryz.func254 Tryz.ntmps254 fun C=>?_
 refine .seq (.rg [] ?_ (h:=by simp only[go_sem,seval,hw];rfl))
 refine .seq (.seq (.rg [] ?_ (h:=by simp only[go_sem,seval,hw];rfl)))
 refine .cB (fun h8=>?_) (fun h8=>?_) (hc:=by simp only[go_sem,seval,hw];rfl) (hp:=by simp only[go_sem,seval,hw])
 ·refine .seq (.rg [at_ [0] [] (ihH n (by omega) s ⟨s1,s2,s3⟩ (by simp at h8;omega))] ?_ (h:=by simp only[go_sem,seval,hw];rfl))
  refine .ret ⟨.inr rfl,?_⟩
  exact Out.mm (by simp only[Tryz.results254];rfl) (by simp only[ba_,rns,rn,go_sem,seval,hw]<;>((obtain rfl:t=4:=(by simp at h8;omega));simp[tk_])) (by simp only[aw_,go_sem,seval,hw]<;>((obtain rfl:t=4:=(by simp at h8;omega));simp[tk_])) (h1:=by simp only[a1_,bn_,go_sem,seval,hw]) (h6:=by simp only[go_sem,seval,hw]) (h7:=by simp only[a5_,go_sem,seval,hw])
 refine .skip (.seq (.rg [at_ [0] [] (ihL n (by omega) (t+1) s (by simp at h8;omega) ⟨s1,s2,s3⟩ (by simp at h8;omega))] ?_ (h:=by simp only[go_sem,seval,hw];rfl)))
 refine .seq (.block (.loopK (fun q:Nat × E × RS=>⟨[.pt 0 3 0 0,.i .i64 t,.no,.no,.pt 14 4 0 0,.pt 15 4 0 0,.no,.no,.no,.no,.no,.no,.no,.no,.no,.no,.no,.no,.no,.no,.no,.no,.no,.no,.no,.no,.no,.no,.no,.no,.no,.no,.no,.no,.no,.no,.no,.no,.no,.no,.no,.no,.no,.no,.no,.no,.no,.no,.no,.no],ae_ [(0,rsB q.2.2),(14,⟨56,4,[[.i .i64 0,.i .i64 0,.s [],.sl true []]]⟩),(15,⟨56,4,[eC q.2.1]⟩)],us [14,15]⟩) (fun q:Nat × E × RS=>LI n t s q) (fun q:Nat × E × RS=>q.2.2.left.length) ((n,(b4_ n (t+1) s).1,(b4_ n (t+1) s).2)) ?_ ?_ (fun q hI=>?_)))
 ·exact⟨(L1 (by simp at h8;omega)).1,by have:=(L1 (by simp at h8;omega)).2;dsimp only;simp at h8;omega,Nat.le_refl _,rfl⟩
 ·exact Can.wl (h:=by simp only[go_sem,seval,hw,av_,leV,as_,au_,V.inn,us,true_or,or_true]) (hi:=by simp only[go_sem,seval,hw,av_,leV,as_,au_,V.inn,us,true_or,or_true]) (hL:=by simp only[go_sem,seval,hw,av_,leV,as_,au_,V.inn,us,true_or,or_true])
 refine .seq (.seq (.rgSo [34] [asO En { v:=.s (br_ q.2.2) },ab_ (mc_ (br_ q.2.2))] ?_ ?_ (h:=by simp only[go_sem,seval,hw];rfl)))
 ·exact⟨fun h=>⟨h,a1t_ h,ag1_ (aqu_ h)⟩,fun h=>⟨⟨h,by rw[ag1_ (aqu_ h)];exact Nat.le_refl _⟩,by rw[a06_ (aqu_ h)]⟩⟩
 refine .cB (fun h38=>?_) (fun h38=>?_) (hc:=by simp only[go_sem,seval,hw];rfl) (hp:=by simp only[go_sem,seval,hw])
 ·refine .skip (.block (.seq (.rg [at_ [0] [] (q9_ q.2.2 (by have:=hI.1.2;omega))] ?_ (h:=by simp only[go_sem,seval,hw];rfl))))
  refine .rgD [at_ [0] [] (LJ q hI.1 hI.2.1 hI.2.2.1 (by simp at h38;intro e;simp[e]at h38) (by simp at h8;omega))] ?_ (h:=by simp only[go_sem,seval,hw];rfl)
  refine⟨LN t q,?_,?_,?_⟩
  ·exact(ae6_ hI h38).1
  ·exact(ae6_ hI h38).2
  refine Can.trans (Can.leAt 15 ([[.i .i64 3,.i .i64 0,.s (br_ q.2.2),.sl false [eC q.2.1,eC (b4_ (q.1 - 1) (t+1) (a7_ q.2.2)).1]]]) (by simp only[go_sem,seval,hw]<;>rfl) (by simp only[go_sem,seval,hw,ler,les,leV]<;>(first|trivial|simp)) (by simp only[go_sem,seval,hw]<;>rfl)) ?_
  exact Can.wl (h:=by simp only[go_sem,seval,hw,av_,leV,as_,au_,V.inn,us,true_or,or_true]) (hi:=by simp only[go_sem,seval,hw,av_,leV,as_,au_,V.inn,us,true_or,or_true]) (hL:=by simp only[go_sem,seval,hw,av_,leV,as_,au_,V.inn,us,true_or,or_true]<;>(simp[LN,E.kind,E.n,E.s,E.kids,eR,dz_]))
 refine .exit (.seq (.rg [] ?_ (h:=by simp only[go_sem,seval,hw];rfl)))
 refine .ret ⟨.inr rfl,?_⟩
 exact Out.mm (by simp only[Tryz.results254];rfl) (by simp only[ba_,rns,rn,go_sem,seval,hw]<;>(rw[al5_ h8 hI h38])) (by simp only[aw_,go_sem,seval,hw]<;>(rw[al5_ h8 hI h38];(try simp))) (h1:=by simp only[a1_,bn_,go_sem,seval,hw]) (h6:=by simp only[go_sem,seval,hw]) (h7:=by simp only[a5_,go_sem,seval,hw])
end
section
theorem asw_ {s:RS} {e:E} (h:(!s.bad&&(!s.left.isEmpty&&br_ s==wAs))=true):asR s e=asR (a7_ (a7_ s)) (.mk 4 0 (br_ (a7_ s)) [e])∧s.left≠[]:=by
 obtain⟨left,bad,deep⟩:=s
 cases left with
 |nil=>simp at h
 |cons x r=>
  simp only[Bool.and_eq_true,Bool.not_eq_true',beq_iff_eq,br_]at h
  obtain⟨rfl,_,rfl⟩:=h
  refine⟨?_,by simp⟩
  cases r with
  |nil=>simp[asR,asL,a7_,br_]
  |cons t r=>simp[asR,asL,a7_,br_]
theorem auv_ {s:RS} {e:E} (h:(!s.bad&&(!s.left.isEmpty&&br_ s==wAs))=false):asR s e=(e,s):=by
 obtain⟨left,bad,deep⟩:=s
 cases bad with
 |true=>simp[asR]
 |false=>
  match left with
  |[]=>simp[asR,asL]
  |[x]=>simp[br_]at h;simp[asR,asL,h]
  |x::t::r=>simp[br_]at h;simp[asR,asL,h]
def HS (s:RS):RS:=⟨(a7_ s).left,(a7_ s).bad||decide ((a7_ s).deep+1 > 40),(a7_ s).deep+1⟩
def HP (m:Nat) (s:RS):E × RS:=if (HS s).bad then(E0,HS s)else b4_ m 1 (HS s)
def HQ (q:E × RS):E × RS:=(q.1,if q.2.bad then q.2 else { a7_ q.2 with bad:=!(br_ q.2==[41]) })
theorem a0s_ {m:Nat} {s:RS} (h:(!((a7_ s).bad||decide ((a7_ s).deep+1 > 40)))=true):HP m s=b4_ m 1 (HS s):=by
 unfold HP
 have:(HS s).bad=false:=by simpa[HS]using h
 rw[this];rfl
theorem a0e_ {m:Nat} {s:RS} (h:(!((a7_ s).bad||decide ((a7_ s).deep+1 > 40)))=false):HP m s=(E0,HS s):=by
 unfold HP
 have:(HS s).bad=true:=by simp only[Bool.not_eq_false']at h;exact h
 rw[this];rfl
theorem agt_ {m:Nat} {s:RS}:en_ (m+1) [40] (a7_ s)=HQ (HP m s):=by
 simp only[en_,if_true]
 by_cases h:(a7_ s).bad=true∨40<(a7_ s).deep+1
 ·rw[if_pos h]
  have hx:((a7_ s).bad||decide ((a7_ s).deep+1 > 40))=true:=by simpa using h
  rw[a0e_ (by rw[hx];rfl)]
  simp only[HQ,HS,hx,if_true]
 rw[if_neg h]
 have hx:((a7_ s).bad||decide ((a7_ s).deep+1 > 40))=false:=by simp at h ⊢;exact⟨h.1,by omega⟩
 have hb:(a7_ s).bad=false:=by simp at h;exact h.1
 have e:HS s={ a7_ s with deep:=(a7_ s).deep+1 }:=by unfold HS;rw[hx,←hb]
 rw[a0s_ (by rw[hx];rfl),e];rfl
theorem ani_ {n:Nat} {w:Str} {s:RS} (h:w≠[40]) (h1:a8_ w=false) (h2:gi_ w=false):en_ (n+1) w s=(E0,{ s with bad:=true }):=by simp[en_,h,h1,h2]
theorem adh_ {s:RS} (h:okS2 s) (b:Bool):okS2 { s with bad:=b }:=h
theorem abv_ {s:RS} (h:okS2 s) (hn:s.left≠[]):okS2 (HS s):=by
 have:=mn_ hn
 have h1:=k5_ h
 exact⟨h1.1,by have:=h1.2.1;simp only[HS];omega,by have:=uh_ s;have:=h.2.2;simp only[HS];omega⟩
theorem akg_ {s:RS} (h:okS2 s) (hn:s.left≠[]) (m:Nat):okS2 (HP m s).2:=by
 unfold HP;split
 ·exact abv_ h hn
 exact aj1_ (abv_ h hn) m 1
theorem ak1_ {q:E × RS} (h:okS2 q.2):okS2 (HQ q).2:=by
 unfold HQ;dsimp only;split
 ·exact h
 exact adh_ (k5_ h) _
theorem aah_ {s:RS} (h:br_ s≠[]):s.left≠[]:=by unfold br_ at h;intro e;rw[e]at h;exact h rfl
theorem pe_ {n:Nat} {s:RS} {q:E × RS} (h:en_ n (br_ s) (a7_ s)=q):fy_ (n+1) s=asR q.2 q.1:=by simp only[fy_,h]
theorem akn_ (s:Str):dg_ (lc_ s)=true:=by unfold lc_;split<;>rfl
attribute [local go_sem] aw_ a5_ in
theorem anh_ (m:Nat) (ihL:∀j,j<m+2→alk_ j):ajm_ (m+2):=fun s hs hn=>by
 have h1:=k5_ hs
 have hd:=uh_ s
 have hl1:=ix_ s
 have hb:=hs.2.2
 have hb0:=hs.2.1
 have hH:=(jg_ hs.1).2
 have hw:IntKind.i64.wrap ((a7_ s).deep+1)=(a7_ s).deep+1:=ac_ (by omega) (by omega)
 have hnv:a8_ (br_ s)=true→lc_ (br_ s) = .i .i64 (am_ (br_ s)):=fun h=>by simp[lc_,h]
 have LB:s.left≠[]→ACall En 254 [.pt 0 3 0 0,.i .i64 ((1:Nat):Int)] [rsB (HS s)] [.ag (eC (b4_ m 1 (HS s)).1)] [rsB (b4_ m 1 (HS s)).2]:=fun h=>ihL m (by omega) 1 (HS s) (by omega) (abv_ hs h) (by have:=mn_ h;show 10 * (a7_ s).left.length+10 - 1≤m;omega)
 refine aa_ [0] Tryz.func293 Tryz.ntmps293 fun C=>?_
 refine .seq (.rg [] ?_ (h:=by simp only[go_sem,seval,hw];rfl))
 refine .seq (.rg [] ?_ (h:=by simp only[go_sem,seval,hw];rfl))
 refine .seq (.rg [at_ [0] [] (q9_ s (by omega))] ?_ (h:=by simp only[go_sem,seval,hw];rfl))
 refine .seq (.rgo [ab_ (o6_ (br_ s) hH)] ?_ ?_ (h:=by simp only[go_sem,seval,hw];rfl))
 ·exact⟨kn_ _,akn_ _⟩
 refine .seqJ (fun q2:E × RS=>⟨[.pt 0 3 0 0,.no,.pt 12 4 0 0,.pt 13 4 0 0,.no,.no,.no,.no,.no,.no,.no,.no,.no,.no,.no,.no,.no,.no,.no,.no,.no,.no,.no,.no,.no,.no,.no,.no,.no,.no,.no,.no,.no,.no,.no,.no,.no,.no,.no,.no,.no,.no,.no,.no,.no,.no,.no,.no,.no,.no,.no,.no,.no,.no,.no,.no,.no,.no,.no,.no,.no,.no,.no,.no,.no,.no,.no,.no,.no,.no,.no,.no,.no,.no,.no,.no,.no,.no,.no,.no],ae_ [(0,rsB q2.2),(12,⟨56,4,[[.i .i64 0,.i .i64 0,.s [],.sl true []]]⟩),(13,⟨56,4,[eC q2.1]⟩)],us [12,13]⟩) (fun q2:E × RS=>fy_ (m+2) s=asR q2.2 q2.1∧okS2 q2.2) ?_ (fun q2 hJ=>?_)
 ·refine .block (.seq (.rg [] ?_ (h:=by simp only[go_sem,seval,hw];rfl)))
  refine .cB (fun h17=>?_) (fun h17=>?_) (hc:=by simp only[go_sem,seval,hw];rfl) (hp:=by simp only[go_sem,seval,hw])
  ·refine .seq (.rg [] ?_ (h:=by simp only[go_sem,seval,hw];rfl))
   refine .seq (.rg [] ?_ (h:=by simp only[go_sem,seval,hw];rfl))
   refine .seqJ (fun q:E × RS=>⟨[.pt 0 3 0 0,.no,.pt 12 4 0 0,.pt 13 4 0 0,.no,.no,.no,.no,.no,.no,.no,.no,.no,.no,.no,.no,.no,.no,.no,.no,.no,.no,.no,.no,.no,.no,.no,.no,.no,.no,.no,.no,.no,.no,.no,.no,.no,.no,.no,.no,.no,.no,.no,.no,.no,.no,.no,.no,.no,.no,.no,.no,.no,.no,.no,.no,.no,.no,.no,.no,.no,.no,.no,.no,.no,.no,.no,.no,.no,.no,.no,.no,.no,.no,.no,.no,.no,.no,.no,.no],ae_ [(0,rsB q.2),(12,⟨56,4,[[.i .i64 0,.i .i64 0,.s [],.sl true []]]⟩),(13,⟨56,4,[eC q.1]⟩)],us [12,13]⟩) (fun q:E × RS=>q=HP m s∧okS2 q.2) ?_ (fun q hJ=>?_)
   ·refine .seq (.rg [] ?_ (h:=by simp only[go_sem,seval,hw];rfl))
    refine .cB (fun h45=>?_) (fun h45=>?_) (hc:=by simp only[go_sem,seval,hw];rfl) (hp:=by simp only[go_sem,seval,hw])
    ·refine .rg [at_ [0] [] (LB (aah_ (by simp at h17;rw[h17];simp)))] ?_ (h:=by simp only[go_sem,seval,hw];rfl)
     refine⟨HP m s,?_,?_⟩
     ·exact⟨rfl,akg_ hs (aah_ (by simp at h17;rw[h17];simp)) m⟩
     exact Can.wl (h:=by simp only[go_sem,seval,hw,av_,leV,as_,au_,V.inn,us,true_or,or_true]) (hi:=by simp only[go_sem,seval,hw,av_,leV,as_,au_,V.inn,us,true_or,or_true]) (hL:=by simp only[go_sem,seval,hw,av_,leV,as_,au_,V.inn,us,true_or,or_true]<;>((rw[a0s_ h45];simp;done)))
    refine .skip ?_
    refine⟨HP m s,?_,?_⟩
    ·exact⟨rfl,akg_ hs (aah_ (by simp at h17;rw[h17];simp)) m⟩
    refine Can.trans (Can.leAt 13 ([[.i .i64 0,.i .i64 0,.s [],.sl false []]]) (by simp only[go_sem,seval,hw]<;>rfl) (by simp only[go_sem,seval,hw,ler,les,leV]<;>(first|trivial|simp)) (by simp only[go_sem,seval,hw]<;>rfl)) ?_
    exact Can.wl (h:=by simp only[go_sem,seval,hw,av_,leV,as_,au_,V.inn,us,true_or,or_true]) (hi:=by simp only[go_sem,seval,hw,av_,leV,as_,au_,V.inn,us,true_or,or_true]) (hL:=by simp only[go_sem,seval,hw,av_,leV,as_,au_,V.inn,us,true_or,or_true]<;>((rw[a0e_ h45];simp[HS,E0,E.kind,E.n,E.s,E.kids,eR];done)))
   cases hb:q.2.bad
   ·refine .rgo [at_ [0] [] (q9_ q.2 (by have:=(hJ.2:okS2 q.2).2.2;have:=(hJ.2:okS2 q.2).2.1;omega))] ?_ ?_ (h:=by simp only[go_sem,seval,hw,hb];rfl)
    ·((simp[hb];done))
    refine⟨HQ q,?_,?_⟩
    ·exact⟨pe_ (by rw[show br_ s=[40]from by simpa using h17,agt_,hJ.1]),ak1_ hJ.2⟩
    exact Can.wl (h:=by simp only[go_sem,seval,hw,av_,leV,as_,au_,V.inn,us,true_or,or_true]) (hi:=by simp only[go_sem,seval,hw,av_,leV,as_,au_,V.inn,us,true_or,or_true]) (hL:=by simp only[go_sem,seval,hw,av_,leV,as_,au_,V.inn,us,true_or,or_true]<;>((simp[HQ,hb];done)))
   refine .rg [at_ [0] [] (q9_ q.2 (by have:=(hJ.2:okS2 q.2).2.2;have:=(hJ.2:okS2 q.2).2.1;omega))] ?_ (h:=by simp only[go_sem,seval,hw,hb];rfl)
   refine⟨HQ q,?_,?_⟩
   ·exact⟨pe_ (by rw[show br_ s=[40]from by simpa using h17,agt_,hJ.1]),ak1_ hJ.2⟩
   exact Can.wl (h:=by simp only[go_sem,seval,hw,av_,leV,as_,au_,V.inn,us,true_or,or_true]) (hi:=by simp only[go_sem,seval,hw,av_,leV,as_,au_,V.inn,us,true_or,or_true]) (hL:=by simp only[go_sem,seval,hw,av_,leV,as_,au_,V.inn,us,true_or,or_true]<;>((simp[HQ,hb];done)))
  refine .seq (.rg [] ?_ (h:=by simp only[go_sem,seval,hw];rfl))
  refine .cB (fun h60=>?_) (fun h60=>?_) (hc:=by simp only[go_sem,seval,hw];rfl) (hp:=by simp only[go_sem,seval,hw])
  ·refine .rg [] ?_ (h:=by simp only[go_sem,seval,hw,hnv (by simpa using h60)];rfl)
   refine Exists.intro ((.mk 1 (am_ (br_ s)) [] [],a7_ s)) ⟨?_,?_⟩
   ·exact⟨pe_ (z5_ (by simpa using h17) (by simpa using h60)),h1⟩
   refine Can.trans (Can.leAt 13 ([[.i .i64 1,.i .i64 (am_ (br_ s)),.s [],.sl false []]]) (by simp only[go_sem,seval,hw]<;>rfl) (by simp only[go_sem,seval,hw,ler,les,leV]<;>(first|trivial|simp)) (by simp only[go_sem,seval,hw]<;>rfl)) ?_
   exact Can.wl (h:=by simp only[go_sem,seval,hw,av_,leV,as_,au_,V.inn,us,true_or,or_true]) (hi:=by simp only[go_sem,seval,hw,av_,leV,as_,au_,V.inn,us,true_or,or_true]) (hL:=by simp only[go_sem,seval,hw,av_,leV,as_,au_,V.inn,us,true_or,or_true]<;>((simp[E.kind,E.n,E.s,E.kids,eR];done)))
  refine .seq (.rg [ab_ (o7_ (br_ s) (by omega))] ?_ (h:=by simp only[go_sem,seval,hw];rfl))
  refine .cB (fun h64=>?_) (fun h64=>?_) (hc:=by simp only[go_sem,seval,hw];rfl) (hp:=by simp only[go_sem,seval,hw])
  ·refine .rg [] ?_ (h:=by simp only[go_sem,seval,hw];rfl)
   refine Exists.intro ((.mk 2 0 (br_ s) [],a7_ s)) ⟨?_,?_⟩
   ·exact⟨pe_ (w2_ (by simpa using h17) (by simpa using h60) (by simpa using h64)),h1⟩
   refine Can.trans (Can.leAt 13 ([[.i .i64 2,.i .i64 0,.s (br_ s),.sl false []]]) (by simp only[go_sem,seval,hw]<;>rfl) (by simp only[go_sem,seval,hw,ler,les,leV]<;>(first|trivial|simp)) (by simp only[go_sem,seval,hw]<;>rfl)) ?_
   exact Can.wl (h:=by simp only[go_sem,seval,hw,av_,leV,as_,au_,V.inn,us,true_or,or_true]) (hi:=by simp only[go_sem,seval,hw,av_,leV,as_,au_,V.inn,us,true_or,or_true]) (hL:=by simp only[go_sem,seval,hw,av_,leV,as_,au_,V.inn,us,true_or,or_true]<;>((simp[E.kind,E.n,E.s,E.kids,eR];done)))
  refine .rg [] ?_ (h:=by simp only[go_sem,seval,hw];rfl)
  refine Exists.intro ((E0,{ a7_ s with bad:=true })) ⟨?_,?_⟩
  ·exact⟨pe_ (ani_ (by simpa using h17) (by simpa using h60) (by simpa using h64)),adh_ h1 true⟩
  refine Can.trans (Can.leAt 13 ([[.i .i64 0,.i .i64 0,.s [],.sl false []]]) (by simp only[go_sem,seval,hw]<;>rfl) (by simp only[go_sem,seval,hw,ler,les,leV]<;>(first|trivial|simp)) (by simp only[go_sem,seval,hw]<;>rfl)) ?_
  exact Can.wl (h:=by simp only[go_sem,seval,hw,av_,leV,as_,au_,V.inn,us,true_or,or_true]) (hi:=by simp only[go_sem,seval,hw,av_,leV,as_,au_,V.inn,us,true_or,or_true]) (hL:=by simp only[go_sem,seval,hw,av_,leV,as_,au_,V.inn,us,true_or,or_true]<;>((simp[E0,E.kind,E.n,E.s,E.kids,eR];done)))
 refine .seq (.block (.loopK (fun p:E × RS=>⟨[.pt 0 3 0 0,.no,.pt 12 4 0 0,.pt 13 4 0 0,.no,.no,.no,.no,.no,.no,.no,.no,.no,.no,.no,.no,.no,.no,.no,.no,.no,.no,.no,.no,.no,.no,.no,.no,.no,.no,.no,.no,.no,.no,.no,.no,.no,.no,.no,.no,.no,.no,.no,.no,.no,.no,.no,.no,.no,.no,.no,.no,.no,.no,.no,.no,.no,.no,.no,.no,.no,.no,.no,.no,.no,.no,.no,.no,.no,.no,.no,.no,.no,.no,.no,.no,.no,.no,.no,.no],ae_ [(0,rsB p.2),(12,⟨56,4,[[.i .i64 0,.i .i64 0,.s [],.sl true []]]⟩),(13,⟨56,4,[eC p.1]⟩)],us [12,13]⟩) (fun p:E × RS=>asR q2.2 q2.1=asR p.2 p.1∧okS2 p.2) (fun p:E × RS=>p.2.left.length) (q2) ?_ ?_ (fun p hI=>?_)))
 ·exact⟨rfl,hJ.2⟩
 ·exact Can.wl (h:=by simp only[go_sem,seval,hw,av_,leV,as_,au_,V.inn,us,true_or,or_true]) (hi:=by simp only[go_sem,seval,hw,av_,leV,as_,au_,V.inn,us,true_or,or_true]) (hL:=by simp only[go_sem,seval,hw,av_,leV,as_,au_,V.inn,us,true_or,or_true])
 refine .seq (.seq (.rg [at_ [0] [] (at_a p.2 (by have:=hI.2.2.2;have:=hI.2.2.1;omega))] ?_ (h:=by simp only[go_sem,seval,hw];rfl)))
 refine .cB (fun h71=>?_) (fun h71=>?_) (hc:=by simp only[go_sem,seval,hw];rfl) (hp:=by simp only[go_sem,seval,hw])
 ·refine .skip (.block (.seq (.rg [at_ [0] [] (q9_ p.2 (by have:=hI.2.2.2;have:=hI.2.2.1;omega))] ?_ (h:=by simp only[go_sem,seval,hw];rfl))))
  refine .rgD [at_ [0] [] (q9_ (a7_ p.2) (by have:=hI.2.2.2;have:=hI.2.2.1;have:=ix_ p.2;omega))] ?_ (h:=by simp only[go_sem,seval,hw];rfl)
  refine Exists.intro ((.mk 4 0 (br_ (a7_ p.2)) [p.1],a7_ (a7_ p.2))) ⟨?_,?_,?_⟩
  ·exact⟨by rw[hI.1,(asw_ h71).1],k5_ (k5_ hI.2)⟩
  ·have q1:=mn_ (asw_ (e:=p.1) h71).2;have q2:=ix_ (a7_ p.2);dsimp only;omega
  refine Can.trans (Can.leAt 13 ([[.i .i64 4,.i .i64 0,.s (br_ (a7_ p.2)),.sl false [eC p.1]]]) (by simp only[go_sem,seval,hw]<;>rfl) (by simp only[go_sem,seval,hw,ler,les,leV]<;>(first|trivial|simp)) (by simp only[go_sem,seval,hw]<;>rfl)) ?_
  exact Can.wl (h:=by simp only[go_sem,seval,hw,av_,leV,as_,au_,V.inn,us,true_or,or_true]) (hi:=by simp only[go_sem,seval,hw,av_,leV,as_,au_,V.inn,us,true_or,or_true]) (hL:=by simp only[go_sem,seval,hw,av_,leV,as_,au_,V.inn,us,true_or,or_true]<;>(simp[E.kind,E.n,E.s,E.kids,eR,dz_]))
 refine .exit (.seq (.rg [] ?_ (h:=by simp only[go_sem,seval,hw];rfl)))
 refine .ret ⟨.inr rfl,?_⟩
 exact Out.mm (by simp only[Tryz.results293];rfl) (by simp only[ba_,rns,rn,go_sem,seval,hw]<;>(rw[hJ.1,hI.1,auv_ h71])) (by simp only[aw_,go_sem,seval,hw]<;>(rw[hJ.1,hI.1,auv_ h71];(try simp))) (h1:=by simp only[a1_,bn_,go_sem,seval,hw]) (h6:=by simp only[go_sem,seval,hw]) (h7:=by simp only[a5_,go_sem,seval,hw])
theorem arw_ (n:Nat):alk_ n∧ajm_ n:=by
 induction n using Nat.strongRecOn with
 |ind n ih=>
 refine⟨?_,?_⟩
 ·cases n with
  |zero=>intro t s ht hs hn;omega
  |succ n=>exact ajt_ n (fun j hj=>(ih j hj).1) (fun j hj=>(ih j hj).2)
 match n with
 |0=>intro s hs hn;omega
 |1=>intro s hs hn;omega
 |m+2=>exact anh_ m (fun j hj=>(ih j hj).1)
end
end Go.Proofs.YthjccajoadjicaaGreatDoor
