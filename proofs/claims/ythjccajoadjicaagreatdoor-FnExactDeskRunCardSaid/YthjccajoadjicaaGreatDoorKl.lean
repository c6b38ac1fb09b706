/- The text of a map, whence and where to: the reference's. Conditions: none. -/
import Derived.Test.YthjccajoadjicaaGreatDoorKk
import Derived.Test.YthjccajoadjicaaGreatDoorKj
import Derived.Test.YthjccajoadjicaaGreatDoorKi
import Derived.Test.YthjccajoadjicaaGreatDoorKc
import Derived.Test.YthjccajoadjicaaGreatDoorKf
import Derived.Lib.SmallJoins
import Derived.Lib.SplitLaws
import Derived.Lib.IndexAny
import Derived.Test.YthjccajoadjicaaGreatDoorKg
import Derived.Test.YthjccajoadjicaaGreatDoorKd
import Derived.Test.YthjccajoadjicaaGreatDoorKh
import Derived.Test.YthjccajoadjicaaGreatDoorKe
set_option linter.unusedVariables false
set_option linter.unusedSimpArgs false
namespace Go.Proofs.YthjccajoadjicaaGreatDoor
section
set_option maxRecDepth 100000
set_option maxHeartbeats 8000000
attribute [local go_sem] b9_ cg_ in
theorem ag5_ (l:List Sg) (hl:l.length≤1000000000000):ACall En 63 [.sl false (sgR l)] [] [.s (mapT l)] []:=by
 refine aa_ [] Tryz.func63 Tryz.ntmps63 fun C=>?_
 refine .seq (.rg [] ?_)
 refine .seq (.rg [] ?_)
 refine .seq (.rg [] ?_)
 refine .seq (.rg [] ?_)
 refine .seq (.rg [] ?_)
 refine .seq (.seq (.rg [] ?_))
 refine .block (.loopK (fun k:Nat=>⟨[.sl false (sgR l),.no,.no,.s (ih_ l k),.i .i64 (ahd l k).1,.i .i64 (ahd l k).2.1,.pt 16 2 0 0,.i .i64 k,.no,.no,.no,.no,.no,.no,.no,.no,.no,.no,.no,.no,.no,.no,.no,.no,.no,.no,.no,.no,.no,.no,.no,.no,.no,.no,.no,.no,.no,.no,.no,.no,.no,.no,.no,.no,.no,.no,.no,.no,.no,.no,.no,.no,.no,.no,.no,.no,.no,.no,.no,.no],ak_ [(16,⟨80,2,[[.i .i64 (ahd l k).2.2.1,.i .i64 (ahd l k).2.2.2]]⟩)],us [16]⟩) (fun k:Nat=>k≤l.length∧(0<k→hu_ l=true)) (fun k:Nat=>l.length - k) (0) ?_ ?_ (fun k hI=>?_))
 ·exact⟨Nat.zero_le _,fun h=>absurd h (by omega)⟩
 ·refine Can.wk ?_ ?_
  ·first|trivial|(exact⟨rfl,rfl,rfl⟩)
  ·first|trivial|(rfl)
 refine .seq (.seq (.rg [ab_ (rp_ l hl)] ?_))
 refine .cB (fun h17=>?_) (fun h17=>?_)
 ·refine .skip (.seq (.block (.seq (.rgo [] ?_ ?_ (h:=by simp only[go_sem,seval,h4_ (show k<l.length by simp at h17;exact h17.1)];rfl)))))
  ·simp at h17;simp;omega
  refine .seq (.block (.loopK (fun m:Nat=>⟨[.sl false (sgR l),.no,.no,.s (ih_ l k++List.replicate m 61),.i .i64 ((ahd l k).1+m),.i .i64 (if m=0 then(ahd l k).2.1 else 0),.pt 16 2 0 0,.i .i64 k,.pt 18 4 0 0,.no,.no,.no,.no,.no,.no,.no,.no,.no,.no,.no,.no,.no,.no,.no,.no,.no,.no,.no,.no,.no,.no,.no,.no,.no,.no,.no,.no,.no,.no,.no,.no,.no,.no,.no,.no,.no,.no,.no,.no,.no,.no,.no,.no,.no,.no,.no,.no,.no,.no,.no],ak_ [(16,⟨80,2,[[.i .i64 (ahd l k).2.2.1,.i .i64 (ahd l k).2.2.2]]⟩),(18,⟨138,4,[[.i .i64 (l.getD k G0).1,.i .i64 (l.getD k G0).2.1,.i .i64 (l.getD k G0).2.2.1,.i .i64 (l.getD k G0).2.2.2]]⟩)],us [16,18]⟩) (fun m:Nat=>((m:Int)≤(l.getD k G0).1 - (ahd l k).1)) (fun m:Nat=>((l.getD k G0).1 - (ahd l k).1).toNat - m) (0) ?_ ?_ (fun m hI=>?_)))
  ·simp at h17;have:=l6_ h17.2 h17.1;omega
  ·refine Can.wk ?_ ?_
   ·first|trivial|(simp)
   ·first|trivial|(rfl)
  refine .seq (.seq (.rg [] ?_))
  refine .cB (fun h28=>?_) (fun h28=>?_)
  ·refine .skip (.block (.seq (.rgo [] ?_ ?_)))
   ·simp at h17;have:=kz_ h17.2 k (by omega);have:=le_ h17.2 h17.1;have:=l6_ h17.2 h17.1;simp;omega
   refine .seq (.rg [] ?_)
   refine .rg [] ?_
   refine Exists.intro (m+1) ⟨?_,?_,?_⟩
   ·simp only[T3_]at h28;omega
   ·simp only[T3_]at h28;omega
   refine Can.wk ?_ ?_
   ·first|trivial|(simp at h17;have:=le_ h17.2 h17.1;have:=l6_ h17.2 h17.1;simp only[T3_]at h28;rw[aj_ (by omega) (by omega)];exact⟨by rw[List.append_assoc,←avx_,List.replicate_succ],by omega⟩)
   ·first|trivial|(rfl)
  ·refine .exit (.seqJ (fun u:Unit=>⟨[.sl false (sgR l),.no,.no,.s (su_ l k),.i .i64 (l.getD k G0).1,.i .i64 (wx_ l k),.pt 16 2 0 0,.i .i64 k,.pt 18 4 0 0,.no,.no,.no,.no,.no,.no,.no,.no,.no,.no,.no,.no,.no,.no,.no,.no,.no,.no,.no,.no,.no,.no,.no,.no,.no,.no,.no,.no,.no,.no,.no,.no,.no,.no,.no,.no,.no,.no,.no,.no,.no,.no,.no,.no,.no,.no,.no,.no,.no,.no,.no],ak_ [(16,⟨80,2,[[.i .i64 (ahd l k).2.2.1,.i .i64 (ahd l k).2.2.2]]⟩),(18,⟨138,4,[[.i .i64 (l.getD k G0).1,.i .i64 (l.getD k G0).2.1,.i .i64 (l.getD k G0).2.2.1,.i .i64 (l.getD k G0).2.2.2]]⟩)],us [16,18]⟩) (fun u:Unit=>True) ?_ (fun u hJ=>?_))
   ·refine .seq (.rgo [] ?_ ?_ (h:=by simp only[go_sem,seval,show(IntKind.i64.wrap ((k:Int) - 1)).toNat=k - 1 by(by_cases h0:k=0<;>(try subst h0)<;>(try rw[aj_ (by simp at h17;omega) (by simp at h17;omega)])<;>omega),h4_ (show k - 1<l.length by simp at h17;omega)];rfl))
    ·simp at h17;intro h;have h0:=of_decide_eq_true h;exact⟨h,by rw[aj_ (by omega) (by omega)];omega⟩
    refine .cB (fun h45=>?_) (fun h45=>?_)
    ·refine .rgo [] ?_ ?_
     ·simp at h17;have:=kz_ h17.2 k (by omega);have:=le_ h17.2 h17.1;have:=l6_ h17.2 h17.1;simp;omega
     refine Exists.intro (()) ⟨?_,?_⟩
     ·trivial
     refine Can.wk ?_ ?_
     ·first|trivial|(simp only[T4_]at h28;have hm:(ahd l k).1+m=(l.getD k G0).1:=(by omega);first|(simp only[T5_,beq_iff_eq,T3_]at h45;have hk:k≠0:=(by omega);rw[pz_ hk]at h45;exact⟨anm_ hm hk (by omega),hm,vh_ hm⟩)|(refine⟨an3_ hm fun q=>?_,hm,vh_ hm⟩;rw[pz_ q.1,q.2]at h45;simp at h45;omega))
     ·first|trivial|(rfl)
    ·refine .skip ?_
     refine Exists.intro (()) ⟨?_,?_⟩
     ·trivial
     refine Can.wk ?_ ?_
     ·first|trivial|(simp only[T4_]at h28;have hm:(ahd l k).1+m=(l.getD k G0).1:=(by omega);first|(simp only[T5_,beq_iff_eq,T3_]at h45;have hk:k≠0:=(by omega);rw[pz_ hk]at h45;exact⟨anm_ hm hk (by omega),hm,vh_ hm⟩)|(refine⟨an3_ hm fun q=>?_,hm,vh_ hm⟩;rw[pz_ q.1,q.2]at h45;simp at h45;omega))
     ·first|trivial|(rfl)
   refine .seq (.rgo [a4_ (k<l.length∧hu_ l=true) (fun h=>ave_ (l.getD k G0) (wx_ l k) (ahd l k).2.2.1 (ahd l k).2.2.2 (by have:=le_ h.2 h.1;have:=l6_ h.2 h.1;unfold wx_;split<;>omega))] ?_ ?_)
   ·simp at h17;have:=aub_ h17.2 h17.1;have:=v1_ [(l.getD k G0).2.1 - wx_ l k,(l.getD k G0).2.2.1 - (ahd l k).2.2.1,(l.getD k G0).2.2.2 - (ahd l k).2.2.2];simp only[T7_,List.length_nil]at this;exact⟨h17,by omega⟩
   refine .seq (.rg [] ?_)
   refine .rg [] ?_
   refine .rg [] ?_
   refine Exists.intro (k+1) ⟨?_,?_,?_⟩
   ·simp at h17;exact⟨by omega,fun _=>h17.2⟩
   ·simp at h17;omega
   refine Can.wk ?_ ?_
   ·first|trivial|(simp at h17;rw[adu_,z5_,aj_ (by omega) (by omega)];exact⟨rfl,rfl,rfl,rfl⟩)
   ·first|trivial|(rfl)
 ·refine .exit (.seq (.rg [] ?_))
  refine .ret ⟨.inr rfl,?_⟩
  exact Out.pl (by simp only[Tryz.results63];rfl) (by simp only[ag_,go_sem,seval]<;>(unfold mapT;cases hs:hu_ l;(obtain rfl:k=0:=(by rcases Nat.eq_zero_or_pos k with h|h;exact h;rw[hI.2 h]at hs;cases hs);simp[ih_]);(rw[hs]at h17;simp at h17;(obtain rfl:k=l.length:=(by omega));simp)))
attribute [local go_sem] b9_ cg_ in
theorem an6_ (l:List Sg) (L c:Int) (hl:l.length≤1000000000000):ACall En 179 [.sl false (sgR l),.ag [.i .i64 L,.i .i64 c]] [] (aoj_ (o2_ l L c)) []:=by
 refine aa_ [] Tryz.func179 Tryz.ntmps179 fun C=>?_
 refine .seq (.rgo [] ?_ ?_)
 ·(first|trivial|(simp;done)|(simp at h11;simp;omega))
 refine .seq (.seq (.rgo [] ?_ ?_))
 ·(first|trivial|(simp;done)|(simp at h11;simp;omega))
 refine .block (.loopK (fun k:Nat=>⟨[.sl false (sgR l),.no,.no,.pt 13 2 0 0,.pt 14 2 0 0,.no,.i .i64 ((k:Int) - 1),.no,.no,.no,.no,.no,.no,.no,.no,.no,.no,.no,.no,.no,.no,.no,.no,.no,.no,.no,.no,.no,.no,.no,.no,.no,.no,.no,.no,.no,.no,.no,.no,.no],ak_ [(13,⟨80,2,[[.i .i64 L,.i .i64 c]]⟩),(14,⟨80,2,[[.i .i64 0,.i .i64 0]]⟩)],us [13,14]⟩) (fun k:Nat=>k≤l.length∧o2_ l L c=lc_ l L c k) (fun k:Nat=>k) (l.length) ?_ ?_ (fun k hI=>?_))
 ·exact⟨Nat.le_refl _,rfl⟩
 ·refine Can.wh ?_;first|trivial|(rw[aj_ (by omega) (by omega)])
 refine .seq (.seq (.rgo [] ?_ ?_))
 ·(first|trivial|(simp;done)|(simp at h11;simp;omega))
 refine .cB (fun h11=>?_) (fun h11=>?_)
 ·refine .skip (.seq (.block (.seq (.rgDo [] ?_ ?_ (h:=by simp only[go_sem,seval,show((k:Int) - 1).toNat=k - 1 by omega,h4_ (show k - 1<l.length by simp at h11;omega)];rfl)))))
  ·(first|trivial|(simp;done)|(simp at h11;simp;omega))
  refine .cB (fun h33=>?_) (fun h33=>?_)
  ·refine .seq (.rgo [] ?_ ?_ (h:=by simp only[go_sem,seval,show((k:Int) - 1).toNat=k - 1 by omega,h4_ (show k - 1<l.length by simp at h11;omega)];rfl))
   ·(first|trivial|(simp;done)|(simp at h11;simp;omega))
   refine .ret ⟨.inr rfl,?_⟩
   exact Out.pl (by simp only[Tryz.results179];rfl) (by simp only[ag_,go_sem,seval]<;>(simp at h11;(obtain⟨j,rfl⟩:∃j,k=j+1:=⟨k - 1,by omega⟩);rw[hI.2,lc_,if_pos (by simpa using h33)];simp[lkL,lkC]))
  ·refine .skip (.rgo [] ?_ ?_)
   ·(first|trivial|(simp;done)|(simp at h11;simp;omega))
   refine Exists.intro (k - 1) ⟨?_,?_,?_⟩
   ·simp at h11;refine⟨by omega,?_⟩;rw[hI.2];(obtain⟨j,rfl⟩:∃j,k=j+1:=⟨k - 1,by omega⟩);rw[lc_,if_neg (by simpa using h33)];rfl
   ·simp at h11;omega
   refine Can.wh ?_;first|trivial|(simp at h11;rw[aj_ (by omega) (by omega)];simp;omega)
 ·refine .exit (.seq (.rgo [] ?_ ?_))
  ·(first|trivial|(simp;done)|(simp at h11;simp;omega))
  refine .ret ⟨.inr rfl,?_⟩
  exact Out.pl (by simp only[Tryz.results179];rfl) (by simp only[ag_,go_sem,seval]<;>(simp at h11;(obtain rfl:k=0:=(by omega));rw[hI.2];simp[lc_,lkL,lkC]))
attribute [local go_sem] cg_ in
theorem agj_ (l:List Sg) (L c:Int) (hl:l.length≤1000000000000):ACall En 115 [.sl false (sgR l),.ag [.i .i64 L,.i .i64 c]] [] [.ag [.i .i64 (lkL (g2_ l L c)),.i .i64 (lkC (g2_ l L c))],.b (g2_ l L c).isSome] []:=by
 refine aa_ [] Tryz.func115 Tryz.ntmps115 fun C=>?_
 refine .seq (.rg [] ?_)
 refine .seq (.seq (.rg [ab_ (rp_ l hl)] ?_))
 refine .cB (fun h8=>?_) (fun h8=>?_)
 ·refine .seq (.rg [] ?_)
  refine .ret ⟨.inr rfl,?_⟩
  exact Out.pl (by simp only[Tryz.results115];rfl) (by simp only[ag_,go_sem,seval]<;>(simp at h8;simp[g2_,h8,lkL,lkC]))
 ·refine .skip (.seq (.rg [ab_ (an6_ l L c hl)] ?_))
  refine .ret ⟨.inr rfl,?_⟩
  exact Out.pl (by simp only[Tryz.results115];rfl) (by simp only[ag_,go_sem,seval]<;>(simp at h8;simp[g2_,h8]))
attribute [local go_sem] at_ bm_ b9_ cg_ jh_ di_ cmpO cmpB qa_ zg_ in
theorem agk_ (l:List Sg) (L c:Int) (hl:l.length≤1000000000):ACall En 117 [.sl false (sgR l),.ag [.i .i64 L,.i .i64 c]] [] [.sl false (toR (dl_ l L c))] []:=by
 have hF:∀k,((l.take k).filter (eh_ L c)).length≤k:=fun k=>Nat.le_trans (List.length_filter_le _ _) (by rw[List.length_take];omega)
 have hb:=apy_
 refine aa_ [] Tryz.func117 Tryz.ntmps117 fun C=>?_
 refine .seq (.rg [] ?_ (h:=by simp only[go_sem,seval,hb];rfl))
 refine .seq (.rg [] ?_ (h:=by simp only[go_sem,seval,hb];rfl))
 refine .seq (.seq (.rg [] ?_ (h:=by simp only[go_sem,seval,hb];rfl)))
 refine .block (.loopK (fun k:Nat=>⟨[.sl false (sgR l),.no,.no,.pt 13 2 0 0,.no,.ow 20 2 0 ((l.take k).filter (eh_ L c)).length,.i .i64 k,.no,.no,.no,.no,.no,.no,.no,.no,.no,.no,.no,.no,.no,.no,.no,.no,.no,.no,.no,.no,.no,.no,.no,.no,.no,.no,.no],ak_ [(13,⟨80,2,[[.i .i64 L,.i .i64 c]]⟩),(20,⟨80,2,toR ((l.take k).filter (eh_ L c))⟩)],us [13,20]⟩) (fun k:Nat=>k≤l.length∧(0<k→hu_ l=true)) (fun k:Nat=>l.length - k) (0) ?_ ?_ (fun k hI=>?_))
 ·exact⟨by simp,fun h=>absurd h (by omega)⟩
 ·refine Can.trans (Can.ownSlot 5 20 80 2 (by simp only[go_sem,seval,hb]<;>rfl) (by simp only[go_sem,seval,hb]) (by simp only[go_sem,seval,hb]<;>rfl)) ?_
  exact Can.wl (h:=by simp only[go_sem,seval,hb,ae_,leV,ac_,ad_,V.inn,us,T9_,Ta_]<;>(simp)) (hi:=by simp only[go_sem,seval,hb,ae_,leV,ac_,ad_,V.inn,us,T9_,Ta_]) (hL:=by simp only[go_sem,seval,hb,ae_,leV,ac_,ad_,V.inn,us,T9_,Ta_]<;>(simp[toR]))
 refine .seq (.seq (.rg [ab_ (rp_ l (by omega))] ?_ (h:=by simp only[go_sem,seval,hb];rfl)))
 refine .cB (fun h15=>?_) (fun h15=>?_) (hc:=by simp only[go_sem,seval,hb];rfl) (hp:=by simp only[go_sem,seval,hb])
 ·refine .skip (.seqJ (fun u:Unit=>⟨[.sl false (sgR l),.no,.no,.pt 13 2 0 0,.no,.ow 20 2 0 ((l.take (k+1)).filter (eh_ L c)).length,.i .i64 k,.no,.no,.no,.no,.no,.no,.no,.no,.no,.no,.no,.no,.no,.no,.no,.no,.no,.no,.no,.no,.no,.no,.no,.no,.no,.no,.no],ak_ [(13,⟨80,2,[[.i .i64 L,.i .i64 c]]⟩),(20,⟨80,2,toR ((l.take (k+1)).filter (eh_ L c))⟩)],us [13,20]⟩) (fun u:Unit=>True) ?_ (fun u hJ=>?_))
  ·refine .block (.seq (.rgDSo [24] [cmpO En .eql 80 2 awn_] ?_ ?_ (h:=by simp only[go_sem,seval,hb,h4_ (show k<l.length by simp at h15;exact h15.1)];rfl)))
   ·simp at h15;simp;omega
   refine .cB (fun h24=>?_) (fun h24=>?_) (hc:=by simp only[go_sem,seval,hb];rfl) (hp:=by simp only[go_sem,seval,hb])
   ·refine .rgo [] ?_ ?_ (h:=by simp only[go_sem,seval,hb,h4_ (show k<l.length by simp at h15;exact h15.1)];rfl)
    ·simp at h15;have:=hF k;simp[di_];omega
    refine Exists.intro (()) ⟨?_,?_⟩
    ·trivial
    refine Can.trans (Can.swap 42 20 (by decide) (by decide) (by decide) (by decide) (by simp only[go_sem,seval,hb,V.cl]) (by simp only[go_sem,seval,hb,V.cl]) (by simp only[go_sem,seval,hb,ah_,sw,swM,rnB]<;>rfl) (by simp only[go_sem,seval,hb,ah_,sw,swM,rnB]<;>rfl) (by simp only[go_sem,seval,hb,ah_,sw,swM,rnB]<;>rfl)) ?_
    exact Can.wl (h:=by simp only[go_sem,seval,hb,ae_,leV,ac_,ad_,V.inn,us,T9_,Ta_]<;>(first|(rw[dy_ (by simp at h15;exact h15.1),if_pos (by simpa using h24)];simp;done)|(rw[dy_ (by simp at h15;exact h15.1),if_neg (by simpa using h24)];simp;done))) (hi:=by simp only[go_sem,seval,hb,ae_,leV,ac_,ad_,V.inn,us,T9_,Ta_]) (hL:=by simp only[go_sem,seval,hb,ae_,leV,ac_,ad_,V.inn,us,T9_,Ta_]<;>(first|(rw[dy_ (by simp at h15;exact h15.1),if_pos (by simpa using h24)];simp[toR];done)|(rw[dy_ (by simp at h15;exact h15.1),if_neg (by simpa using h24)];simp[toR];done)))
   ·refine .skip ?_
    refine Exists.intro (()) ⟨?_,?_⟩
    ·trivial
    exact Can.wl (h:=by simp only[go_sem,seval,hb,ae_,leV,ac_,ad_,V.inn,us,T9_,Ta_]<;>(first|(rw[dy_ (by simp at h15;exact h15.1),if_pos (by simpa using h24)];simp;done)|(rw[dy_ (by simp at h15;exact h15.1),if_neg (by simpa using h24)];simp;done))) (hi:=by simp only[go_sem,seval,hb,ae_,leV,ac_,ad_,V.inn,us,T9_,Ta_]) (hL:=by simp only[go_sem,seval,hb,ae_,leV,ac_,ad_,V.inn,us,T9_,Ta_]<;>(first|(rw[dy_ (by simp at h15;exact h15.1),if_pos (by simpa using h24)];simp[toR];done)|(rw[dy_ (by simp at h15;exact h15.1),if_neg (by simpa using h24)];simp[toR];done)))
  refine .rg [] ?_ (h:=by simp only[go_sem,seval,hb];rfl)
  refine Exists.intro (k+1) ⟨?_,?_,?_⟩
  ·simp at h15;exact⟨by omega,fun _=>h15.2⟩
  ·simp at h15;omega
  exact Can.wl (h:=by simp only[go_sem,seval,hb,ae_,leV,ac_,ad_,V.inn,us,T9_,Ta_]<;>(rw[aj_ (by simp at h15;omega) (by simp at h15;omega)];simp)) (hi:=by simp only[go_sem,seval,hb,ae_,leV,ac_,ad_,V.inn,us,T9_,Ta_]) (hL:=by simp only[go_sem,seval,hb,ae_,leV,ac_,ad_,V.inn,us,T9_,Ta_])
 ·refine .exit (.seq (.rg [] ?_ (h:=by simp only[go_sem,seval,hb];rfl)))
  refine .frz 20 (by simp only[go_sem,seval,hb];rfl) (by simp only[go_sem,seval,hb]) (by simp only[go_sem,seval,hb];rfl) (by simp only[go_sem,seval,hb];rfl) ?_
  refine .ret ⟨.inr rfl,?_⟩
  exact Out.plL (by simp only[Tryz.results117];rfl) (by simp only[ag_,go_sem,seval,hb]<;>(rw[T1_ (by rw[di_];exact Nat.le_refl _),show(l.take k).filter (eh_ L c)=dl_ l L c by(unfold dl_;cases hs:hu_ l;(obtain rfl:k=0:=(by rcases Nat.eq_zero_or_pos k with h|h;exact h;rw[hI.2 h]at hs;cases hs);simp);(rw[hs]at h15;simp at h15;(obtain rfl:k=l.length:=(by omega));simp))];exact af_ _)) (h1:=by simp only[a8_,b4_,go_sem,seval,hb]<;>(split<;>rfl)) (h3:=by simp only[go_sem,seval,hb])
end
section
set_option maxRecDepth 100000
set_option maxHeartbeats 4000000
theorem aag_ {l:List Sl} {k:Nat} (hk:k<l.length):k<(l.map ofS).length:=by rw[List.length_map];exact hk
theorem ba_ {l:List Sl} {k:Nat} (hk:k≤l.length) (h16:l.length≤16):(a0_ ((l.map ofS).take k)).names.length=(a0_ ((l.map ofS).take k)).nums.length∧(a0_ ((l.map ofS).take k)).names.length≤16∧(a0_ ((l.map ofS).take k)).said.length≤16:=ea_ (by rw[List.length_map];exact hk) (by rw[List.length_map];exact h16)
theorem hh_ {l:List Sl} {k:Nat} (hk:k<l.length) (h:(l.getD k S0).kind=0):a0_ ((l.map ofS).take (k+1))=a0_ ((l.map ofS).take k):=g8_ (aag_ hk) (by rw[ei_ hk];exact h)
theorem iu_ {l:List Sl} {k:Nat} (hk:k<l.length) (h:(a0_ ((l.map ofS).take k)).ok=true) (h1:(l.getD k S0).kind=1) (h2:(dc_ (ofS (l.getD k S0)) (a0_ ((l.map ofS).take k)).names (a0_ ((l.map ofS).take k)).nums).2.2=true) :
  a0_ ((l.map ofS).take (k+1))={ a0_ ((l.map ofS).take k)with names:=(a0_ ((l.map ofS).take k)).names++[(l.getD k S0).name],nums:=(a0_ ((l.map ofS).take k)).nums++[(rk (l.getD k S0).expr (a0_ ((l.map ofS).take k)).names (a0_ ((l.map ofS).take k)).nums).1] }:=by
 have:=ja_ (aag_ hk) h (by rw[ei_ hk];exact h1) (by rw[ei_ hk];exact h2)
 rw[ei_ hk]at this;exact this
theorem e9_ {l:List Sl} {k:Nat} (hk:k<l.length) (h:(a0_ ((l.map ofS).take k)).ok=true) (h0:¬(l.getD k S0).kind=0) (h1:¬(l.getD k S0).kind=1) (h2:(dc_ (ofS (l.getD k S0)) (a0_ ((l.map ofS).take k)).names (a0_ ((l.map ofS).take k)).nums).2.2=true) (h3:(l.getD k S0).kind=2∨¬(rk (l.getD k S0).expr (a0_ ((l.map ofS).take k)).names (a0_ ((l.map ofS).take k)).nums).1=0) :
  a0_ ((l.map ofS).take (k+1))={ a0_ ((l.map ofS).take k)with said:=(a0_ ((l.map ofS).take k)).said++[(dc_ (ofS (l.getD k S0)) (a0_ ((l.map ofS).take k)).names (a0_ ((l.map ofS).take k)).nums).2.1] }:=by
 have:=fs_ (aag_ hk) h (by rw[ei_ hk];exact h0) (by rw[ei_ hk];exact h1) (by rw[ei_ hk];exact h2) (by rw[ei_ hk];exact h3)
 rw[ei_ hk]at this;exact this
theorem hd_ {l:List Sl} {k:Nat} (hk:k<l.length) (h:(a0_ ((l.map ofS).take k)).ok=true) (h0:¬(l.getD k S0).kind=0) (h1:¬(l.getD k S0).kind=1) (h2:(dc_ (ofS (l.getD k S0)) (a0_ ((l.map ofS).take k)).names (a0_ ((l.map ofS).take k)).nums).2.2=true) (h3:¬(l.getD k S0).kind=2) (h4:(rk (l.getD k S0).expr (a0_ ((l.map ofS).take k)).names (a0_ ((l.map ofS).take k)).nums).1=0) :
  a0_ ((l.map ofS).take (k+1))=a0_ ((l.map ofS).take k):=hg_ (aag_ hk) h (by rw[ei_ hk];exact h0) (by rw[ei_ hk];exact h1) (by rw[ei_ hk];exact h2) (by rw[ei_ hk];exact h3) (by rw[ei_ hk];exact h4)
attribute [local go_sem] ep_ dx_ as_ ao_ br_ in
theorem aca_ (l:List Sl) (hs:oh_ l=true) (hl:l.length<4611686018427387904):ACall En 91 [.sl false (sR l)] [] [.ow 0 1 0 (hf_ l).1.length,.b (hf_ l).2] [⟨3,1,inR (hf_ l).1⟩]:=by
 have F1:∀k,pok l=true→k<l.length→¬(l.getD k S0).kind=0→form (l.getD k S0).expr ((5:Nat):Int)=true:=fun k h hk hk0=>ay_ (o5_ ((a3_ h).2.2 k hk) hk0)
 have F2:∀k,pok l=true→k<l.length→(l.getD k S0).kind=3→form (l.getD k S0).thn ((5:Nat):Int)=true:=fun k h hk hk0=>ay_ (tp_ ((a3_ h).2.2 k hk) hk0)
 refine aa_ [22] Tryz.func91 Tryz.ntmps91 fun C=>?_
 refine .seq (.rg [] ?_)
 refine .seq (.seq (.rg [ab_ (qc_ l hs hl)] ?_))
 refine .cB (fun h14=>?_) (fun h14=>?_)
 ·refine .seq (.rg [] ?_)
  refine .can (Can.ownSlot 2 22 3 1 (by simp only[go_sem,seval]<;>rfl) (by simp only[go_sem,seval]) (by simp only[go_sem,seval]<;>rfl)) ?_
  refine .ret ⟨.inr rfl,?_⟩
  exact Out.mm (by simp only[Tryz.results91];rfl) (by simp only[ag_,rns,rn,go_sem,seval]<;>(rw[p7_ (by simpa using h14)];try simp)) (by simp only[at_,go_sem,seval]<;>(rw[p7_ (by simpa using h14)];simp[inR]))
 ·refine .skip (.seq (.rg [] ?_))
  refine .seq (.rg [] ?_)
  refine .seq (.seq (.rg [] ?_))
  refine .block (.loopK (fun k:Nat=>⟨[.no,.no,.no,.no,.ow 20 1 0 (a0_ ((l.map ofS).take k)).names.length,.ow 21 1 0 (a0_ ((l.map ofS).take k)).nums.length,.ow 22 1 0 (a0_ ((l.map ofS).take k)).said.length,.no,.no,.no,.no,.no,.no,.no,.no,.sl false (sR l),.i .i64 l.length,.i .i64 k,.no,.no,.no,.no,.no,.no,.no,.no,.no,.no,.no,.no,.no,.no,.no,.no,.no,.no,.no,.no,.no,.no,.no,.no,.no,.no,.no,.no,.no,.no,.no,.no,.no,.no,.no,.no,.no,.no,.no,.no,.no,.no,.no,.no,.no,.no,.no,.no,.no,.no,.no,.no,.no,.no,.no,.no,.no,.no,.no,.no,.no,.no],ak_ [(20,⟨9,1,an_ (a0_ ((l.map ofS).take k)).names⟩),(21,⟨3,1,inR (a0_ ((l.map ofS).take k)).nums⟩),(22,⟨3,1,inR (a0_ ((l.map ofS).take k)).said⟩)],us [20,21,22]⟩) (fun k:Nat=>k≤l.length∧(a0_ ((l.map ofS).take k)).ok=true∧pok l=true) (fun k:Nat=>l.length - k) (0) ?_ ?_ (fun k hI=>?_))
  ·exact⟨Nat.zero_le _,by simp[a0_],by simpa using h14⟩
  ·refine Can.trans (Can.ownSlot 4 20 9 1 (by simp only[go_sem,seval]<;>rfl) (by simp only[go_sem,seval]) (by simp only[go_sem,seval]<;>rfl)) ?_
   refine Can.trans (Can.ownSlot 5 21 3 1 (by simp only[go_sem,seval]<;>rfl) (by simp only[go_sem,seval]) (by simp only[go_sem,seval]<;>rfl)) ?_
   refine Can.trans (Can.ownSlot 6 22 3 1 (by simp only[go_sem,seval]<;>rfl) (by simp only[go_sem,seval]) (by simp only[go_sem,seval]<;>rfl)) ?_
   refine Can.wk ?_ ?_
   ·first|trivial|(simp[a0_])
   ·first|trivial|(simp[a0_,an_,inR])
  refine .seq (.rg [] ?_)
  refine .seq (.cB (fun h18=>?_) (fun h18=>?_))
  ·refine .skip (.seq (.block (.seq (.rgo [] ?_ ?_ (h:=by simp only[go_sem,seval,k0_ (show k<l.length by simpa using h18),br_];rfl)))))
   ·simp at h18;simp;omega
   refine .seq (.seq (.rg [] ?_))
   refine .cB (fun h23=>?_) (fun h23=>?_)
   ·refine .exit (.rg [] ?_)
    refine Exists.intro (k+1) ⟨?_,?_,?_⟩
    ·have hk:k<l.length:=(by simpa using h18);have e:=hh_ hk (by simpa using h23);exact⟨by omega,by rw[e];exact hI.2.1,hI.2.2⟩
    ·simp at h18;omega
    refine Can.wk ?_ ?_
    ·first|trivial|((have hk:k<l.length:=(by simpa using h18));(have e:=hh_ hk (by simpa using h23));rw[e,aj_ (by omega) (by omega)];simp)
    ·first|trivial|((have hk:k<l.length:=(by simpa using h18));(have e:=hh_ hk (by simpa using h23));rw[e];simp)
   ·refine .skip (.seq (.rgo [kh_ (p0_ 5 (l.getD k S0).expr (a0_ ((l.map ofS).take k)).names (a0_ ((l.map ofS).take k)).nums (F1 k hI.2.2 (by simpa using h18) (by simpa using h23)) (ba_ hI.1 (a3_ hI.2.2).2.1).1 (by have:=(ba_ hI.1 (a3_ hI.2.2).2.1).2.1;omega))] ?_ ?_))
    ·(first|(simp[T1_,al_,as_,af_];done))
    refine .seq (.rg [] ?_)
    refine .seqJ (fun q:Int × Bool=>⟨[.no,.no,.no,.no,.ow 20 1 0 (a0_ ((l.map ofS).take k)).names.length,.ow 21 1 0 (a0_ ((l.map ofS).take k)).nums.length,.ow 22 1 0 (a0_ ((l.map ofS).take k)).said.length,.no,.pt 18 11 0 0,.i .i64 (rk (l.getD k S0).expr (a0_ ((l.map ofS).take k)).names (a0_ ((l.map ofS).take k)).nums).1,.b q.2,.i .i64 q.1,.no,.no,.no,.sl false (sR l),.i .i64 l.length,.i .i64 k,.no,.no,.no,.no,.no,.no,.no,.no,.no,.no,.no,.no,.no,.no,.no,.no,.no,.no,.no,.no,.no,.no,.no,.no,.no,.no,.no,.no,.no,.no,.no,.no,.no,.no,.no,.no,.no,.no,.no,.no,.no,.no,.no,.no,.no,.no,.no,.no,.no,.no,.no,.no,.no,.no,.no,.no,.no,.no,.no,.no,.no,.no],ak_ [(18,⟨58,11,[sC (l.getD k S0)]⟩),(20,⟨9,1,an_ (a0_ ((l.map ofS).take k)).names⟩),(21,⟨3,1,inR (a0_ ((l.map ofS).take k)).nums⟩),(22,⟨3,1,inR (a0_ ((l.map ofS).take k)).said⟩)],us [20,21,22,18]⟩) (fun q:Int × Bool=>q=((dc_ (ofS (l.getD k S0)) (a0_ ((l.map ofS).take k)).names (a0_ ((l.map ofS).take k)).nums).2.1,(dc_ (ofS (l.getD k S0)) (a0_ ((l.map ofS).take k)).names (a0_ ((l.map ofS).take k)).nums).2.2)) ?_ (fun q hJ=>?_)
    ·refine .seq (.rg [] ?_)
     refine .cB (fun h38=>?_) (fun h38=>?_)
     ·refine .rgo [kh_ (p0_ 5 (l.getD k S0).thn (a0_ ((l.map ofS).take k)).names (a0_ ((l.map ofS).take k)).nums (F2 k hI.2.2 (by simpa using h18) (by simp at h38;exact h38.2)) (ba_ hI.1 (a3_ hI.2.2).2.1).1 (by have:=(ba_ hI.1 (a3_ hI.2.2).2.1).2.1;omega))] ?_ ?_
      ·(first|(simp[T1_,al_,as_,af_];done))
      refine Exists.intro (((rk (l.getD k S0).thn (a0_ ((l.map ofS).take k)).names (a0_ ((l.map ofS).take k)).nums).1,(rk (l.getD k S0).thn (a0_ ((l.map ofS).take k)).names (a0_ ((l.map ofS).take k)).nums).2)) ⟨?_,?_⟩
      ·unfold dc_;first|(rw[if_pos (by simp at h38 ⊢;exact h38)];done)|(rw[if_neg (by simp at h38 ⊢;exact h38)];done)
      exact Can.wl
     ·refine .skip ?_
      refine Exists.intro (((rk (l.getD k S0).expr (a0_ ((l.map ofS).take k)).names (a0_ ((l.map ofS).take k)).nums).1,(rk (l.getD k S0).expr (a0_ ((l.map ofS).take k)).names (a0_ ((l.map ofS).take k)).nums).2)) ⟨?_,?_⟩
      ·unfold dc_;first|(rw[if_pos (by simp at h38 ⊢;exact h38)];done)|(rw[if_neg (by simp at h38 ⊢;exact h38)];done)
      exact Can.wl
    refine .block (.seq (.rg [] ?_))
    refine .cB (fun h47=>?_) (fun h47=>?_)
    ·refine .seq (.rg [bf_ [22] [] (m8_ (a0_ ((l.map ofS).take k)).said (a0_ ((l.map ofS).take k)).said.length rfl (by have:=(ba_ hI.1 (a3_ hI.2.2).2.1).2.2;omega))] ?_)
     refine .ret ⟨.inr rfl,?_⟩
     exact Out.mm (by simp only[Tryz.results91];rfl) (by simp only[ag_,rns,rn,go_sem,seval]<;>(rw[mp_ hI.2.2 (by simpa using h18) hI.2.1 (by simpa using h23) (by rw[hJ]at h47;simpa using h47)];try simp)) (by simp only[at_,go_sem,seval]<;>(rw[mp_ hI.2.2 (by simpa using h18) hI.2.1 (by simpa using h23) (by rw[hJ]at h47;simpa using h47)];(try simp[be_,ao_])))
    ·refine .seq (.rg [] ?_)
     refine .cB (fun h52=>?_) (fun h52=>?_)
     ·refine .rgo [] ?_ ?_
      ·have:=ba_ hI.1 (a3_ hI.2.2).2.1;simp;omega
      refine .rg [] ?_
      refine Exists.intro (k+1) ⟨?_,?_,?_⟩
      ·have hk:k<l.length:=(by simpa using h18);have e:=iu_ hk hI.2.1 (by simpa using h52) (by rw[hJ]at h47;simpa using h47);exact⟨by omega,by rw[e];exact hI.2.1,hI.2.2⟩
      ·simp at h18;omega
      refine Can.trans (Can.sX 70 20) ?_
      refine Can.trans (Can.sX 74 21) ?_
      refine Can.wk ?_ ?_
      ·first|trivial|((have hk:k<l.length:=(by simpa using h18));(have e:=iu_ hk hI.2.1 (by simpa using h52) (by rw[hJ]at h47;simpa using h47));rw[e,aj_ (by omega) (by omega)];simp)
      ·first|trivial|((have hk:k<l.length:=(by simpa using h18));(have e:=iu_ hk hI.2.1 (by simpa using h52) (by rw[hJ]at h47;simpa using h47));rw[e];simp[k7_,c2_])
     ·refine .seq (.rg [] ?_)
      refine .cB (fun h65=>?_) (fun h65=>?_)
      ·refine .rgo [] ?_ ?_
       ·have:=ba_ hI.1 (a3_ hI.2.2).2.1;simp;omega
       refine .rg [] ?_
       refine Exists.intro (k+1) ⟨?_,?_,?_⟩
       ·have hk:k<l.length:=(by simpa using h18);have e:=e9_ hk hI.2.1 (by simpa using h23) (by simpa using h52) (by rw[hJ]at h47;simpa using h47) (by simp at h65;exact h65);exact⟨by omega,by rw[e];exact hI.2.1,hI.2.2⟩
       ·simp at h18;omega
       refine Can.trans (Can.sX 86 22) ?_
       refine Can.wk ?_ ?_
       ·first|trivial|((have hk:k<l.length:=(by simpa using h18));(have e:=e9_ hk hI.2.1 (by simpa using h23) (by simpa using h52) (by rw[hJ]at h47;simpa using h47) (by simp at h65;exact h65));rw[e,aj_ (by omega) (by omega)];simp)
       ·first|trivial|((have hk:k<l.length:=(by simpa using h18));(have e:=e9_ hk hI.2.1 (by simpa using h23) (by simpa using h52) (by rw[hJ]at h47;simpa using h47) (by simp at h65;exact h65));rw[e];simp[c2_,hJ])
      ·refine .skip (.rg [] ?_)
       refine Exists.intro (k+1) ⟨?_,?_,?_⟩
       ·have hk:k<l.length:=(by simpa using h18);have e:=hd_ hk hI.2.1 (by simpa using h23) (by simpa using h52) (by rw[hJ]at h47;simpa using h47) (by simp at h65;exact h65.1) (by simp at h65;exact h65.2);exact⟨by omega,by rw[e];exact hI.2.1,hI.2.2⟩
       ·simp at h18;omega
       refine Can.wk ?_ ?_
       ·first|trivial|((have hk:k<l.length:=(by simpa using h18));(have e:=hd_ hk hI.2.1 (by simpa using h23) (by simpa using h52) (by rw[hJ]at h47;simpa using h47) (by simp at h65;exact h65.1) (by simp at h65;exact h65.2));rw[e,aj_ (by omega) (by omega)];simp)
       ·first|trivial|((have hk:k<l.length:=(by simpa using h18));(have e:=hd_ hk hI.2.1 (by simpa using h23) (by simpa using h52) (by rw[hJ]at h47;simpa using h47) (by simp at h65;exact h65.1) (by simp at h65;exact h65.2));rw[e];simp)
  ·refine .exit (.seq (.rg [bf_ [22] [] (m8_ (a0_ ((l.map ofS).take k)).said (a0_ ((l.map ofS).take k)).said.length rfl (by have:=(ba_ hI.1 (a3_ hI.2.2).2.1).2.2;omega))] ?_))
   refine .ret ⟨.inr rfl,?_⟩
   exact Out.mm (by simp only[Tryz.results91];rfl) (by simp only[ag_,rns,rn,go_sem,seval]<;>(rw[p3_ hI.2.2 (by simpa using h18) hI.2.1];try simp)) (by simp only[at_,go_sem,seval]<;>(rw[p3_ hI.2.2 (by simpa using h18) hI.2.1];(try simp[be_,ao_])))
theorem ag6_ (l:List Sl) (hs:oh_ l=true) (hl:l.length<4611686018427387904):ACall En 91 [.sl false (sR l)] [] [.sl false (inR (hf_ l).1),.b (hf_ l).2] []:=
 ACall.frz1 (aca_ l hs hl) (by simp[er_,frz,as_,T1_])
end
section
set_option maxRecDepth 100000
set_option maxHeartbeats 4000000
def ra_ (b:Bl):Sl:=⟨b.kind,b.name,[],b.expr,b.thn⟩
theorem tSlE (b:Bl):(ra_ b).kind=b.kind∧(ra_ b).name=b.name∧(ra_ b).type=[]∧(ra_ b).expr=b.expr∧(ra_ b).thn=b.thn:=⟨rfl,rfl,rfl,rfl,rfl⟩
theorem inE (l:List Int):(inR l).length=l.length∧bh_ (inR l)=true:=⟨as_ l,ao_ l⟩
theorem l5_ {l:List Bl} {k:Nat} (h:k<l.length):(sR (l.map ra_)).getD k []=sC (ra_ (l.getD k B0)):=by
 simp[sR,T8_,T6_ h]
theorem ac3_ (l:List Bl):(sR (l.map ra_)).length=l.length:=by simp[sR]
attribute [local go_sem] bx_ jd_ cz_ in
theorem ayo_ (l:List Bl) (hs:allB l=true) (hl:l.length<4611686018427387904):ACall En 188 [.sl false (bLR l)] [] [.b (lok l)] []:=by
 refine aa_ [] Tryz.func188 Tryz.ntmps188 fun C=>?_
 refine .seq (.rg [] ?_)
 refine .seq (.seq (.rg [] ?_))
 refine .block (.loopK (fun k:Nat=>⟨[.sl false (bLR l),.no,.no,.i .i64 k,.no,.no,.no,.no,.no,.no,.no,.no,.no,.no,.no,.no,.no,.no,.no,.no,.no,.no,.no,.no],ak_ [],us []⟩) (fun k:Nat=>k≤l.length∧(l.take k).any (fun s=>!bok s)=false) (fun k:Nat=>l.length - k) (0) ?_ ?_ (fun k hI=>?_))
 ·simp
 ·refine Can.wh ?_;first|trivial|(simp)
 refine .seq (.seq (.rg [] ?_))
 refine .cB (fun h7=>?_) (fun h7=>?_)
 ·refine .skip (.seq (.block (.seq (.rgo [a4_ (k<l.length) (fun h=>ys_ (l.getD k B0) (aii_ hs h))] ?_ ?_ (h:=by simp only[go_sem,seval,ts_ (show k<l.length by simpa using h7)];rfl)))))
  ·simp only[T3_]at h7;simp;omega
  refine .cB (fun h15=>?_) (fun h15=>?_)
  ·refine .seq (.rg [] ?_)
   refine .ret ⟨.inr rfl,?_⟩
   exact Out.pl (by simp only[Tryz.results188];rfl) (by simp only[ag_,go_sem,seval]<;>(simp only[T3_]at h7;have:l.all bok=false:=(by rw[List.all_eq_false];exact⟨_,am_ (d:=B0) (show k<l.length by omega),by simpa using h15⟩);simp[lok,this]))
  ·refine .skip (.rg [] ?_)
   refine Exists.intro (k+1) ⟨?_,?_,?_⟩
   ·simp at h7;refine⟨by omega,?_⟩;rw[i0_ (d:=B0) h7,hI.2,h15];rfl
   ·simp at h7;omega
   refine Can.wh ?_;first|trivial|(rw[aj_ (by omega) (by omega)];simp)
 ·refine .exit (.seq (.rg [] ?_))
  refine .ret ⟨.inr rfl,?_⟩
  exact Out.pl (by simp only[Tryz.results188];rfl) (by simp only[ag_,go_sem,seval]<;>(simp only[T4_]at h7;have h0:=hI.2;rw[T1_ (by omega),anyB]at h0;simp only[Bool.not_eq_false']at h0;simp only[lok,h0,Bool.and_true,dq_,ge_iff_le];rfl))
def so_ (b:Bl) (N:List Str) (M:List Int):Int:=if (rk b.expr N M).2=true∧b.kind=3 then(rk b.thn N M).1 else 0
attribute [local go_sem] inE br_ tSlE in
theorem aq3_ (b:Bl) (N:List Str) (M:List Int) (h:form b.expr ((5:Nat):Int)=true) (h2:b.kind=3→form b.thn ((5:Nat):Int)=true) (hl:N.length=M.length) (hn:N.length≤1000000) :
  ACall En 193 [.ag (sC (ra_ b)),.sl false (an_ N),.sl false (inR M)] [] [.i .i64 (rk b.expr N M).1,.i .i64 (so_ b N M),.b (dc_ b N M).2.2] []:=by
 refine aa_ [] Tryz.func193 Tryz.ntmps193 fun C=>?_
 refine .seq (.rg [] ?_)
 refine .seq (.rg [ab_ (ajc_ 5 b.expr N M h hl hn)] ?_)
 refine .seq (.seq (.rg [] ?_))
 refine .cB (fun h27=>?_) (fun h27=>?_)
 ·refine .seq (.rg [] ?_)
  refine .ret ⟨.inr rfl,?_⟩
  exact Out.pl (by simp only[Tryz.results193];rfl) (by simp only[ag_,go_sem,seval]<;>(unfold dc_ so_;simp at h27;(by_cases hk:b.kind=3<;>simp_all)))
 ·refine .skip (.seq (.rg [ab_ (ajc_ 5 b.thn N M (h2 (by simp at h27;exact h27.1)) hl hn)] ?_))
  refine .seq (.rg [] ?_)
  refine .ret ⟨.inr rfl,?_⟩
  exact Out.pl (by simp only[Tryz.results193];rfl) (by simp only[ag_,go_sem,seval]<;>(unfold dc_ so_;simp at h27;simp[h27]))
theorem t3_ {b:Bl} {N:List Str} {M:List Int} (k:b.kind=3) (h:(dc_ b N M).2.2=true):(dc_ b N M).2.1=so_ b N M:=by
 unfold dc_ so_ at *
 by_cases hk:(rk b.expr N M).2=true∧b.kind=3
 ·rw[if_pos hk,if_pos hk]
 ·rw[if_neg hk]at h
  exact absurd ⟨h,k⟩ hk
theorem adr_ {b:Bl} {N:List Str} {M:List Int} (k:b.kind=2):(dc_ b N M).2.1=(rk b.expr N M).1:=by
 unfold dc_;rw[if_neg (by omega)]
attribute [local go_sem] ac3_ dx_ inE br_ tSlE in
theorem ane_ (l:List Bl) (hs:lok l=true):ACall En 189 [.sl false (sR (l.map ra_))] [] [.ow 0 1 0 (j3_ l).1.length,.b (j3_ l).2] [⟨3,1,inR (j3_ l).1⟩]:=by
 have hb:=(dd_ hs).2.1
 have F1:∀k,k<l.length→¬(l.getD k B0).kind=0→form (l.getD k B0).expr ((5:Nat):Int)=true:=fun k hk hk0=>ay_ (ut_ ((dd_ hs).2.2 k hk) hk0)
 have F2:∀k,k<l.length→(l.getD k B0).kind=3→form (l.getD k B0).thn ((5:Nat):Int)=true:=fun k hk hk0=>ay_ (aal_ ((dd_ hs).2.2 k hk) hk0)
 have F3:∀k,k<l.length→¬(l.getD k B0).kind=0→¬(l.getD k B0).kind=1→¬(l.getD k B0).kind=2→(l.getD k B0).kind=3:=fun k hk a b c=>by have:=aqh_ ((dd_ hs).2.2 k hk);omega
 refine aa_ [22] Tryz.func189 Tryz.ntmps189 fun C=>?_
 refine .seq (.rg [] ?_)
 refine .seq (.rg [] ?_)
 refine .seq (.rg [] ?_)
 refine .seq (.rg [] ?_)
 refine .seq (.seq (.rg [] ?_))
 refine .block (.loopK (fun k:Nat=>⟨[.sl false (sR (l.map ra_)),.no,.no,.no,.ow 22 1 0 (a0_ (l.take k)).said.length,.ow 20 1 0 (a0_ (l.take k)).names.length,.ow 21 1 0 (a0_ (l.take k)).nums.length,.i .i64 k,.no,.no,.no,.no,.no,.no,.no,.no,.no,.no,.no,.no,.no,.no,.no,.no,.no,.no,.no,.no,.no,.no,.no,.no,.no,.no,.no,.no,.no,.no,.no,.no,.no,.no,.no,.no,.no,.no,.no,.no,.no,.no,.no,.no,.no,.no,.no,.no,.no,.no,.no,.no,.no,.no,.no,.no,.no,.no,.no,.no,.no,.no,.no,.no,.no,.no,.no,.no,.no,.no,.no],ak_ [(20,⟨9,1,an_ (a0_ (l.take k)).names⟩),(21,⟨3,1,inR (a0_ (l.take k)).nums⟩),(22,⟨3,1,inR (a0_ (l.take k)).said⟩)],us [20,21,22]⟩) (fun k:Nat=>k≤l.length∧(a0_ (l.take k)).ok=true) (fun k:Nat=>l.length - k) (0) ?_ ?_ (fun k hI=>?_))
 ·exact⟨Nat.zero_le _,by simp[a0_]⟩
 ·refine Can.trans (Can.ownSlot 5 20 9 1 (by simp only[go_sem,seval]<;>rfl) (by simp only[go_sem,seval]) (by simp only[go_sem,seval]<;>rfl)) ?_
  refine Can.trans (Can.ownSlot 6 21 3 1 (by simp only[go_sem,seval]<;>rfl) (by simp only[go_sem,seval]) (by simp only[go_sem,seval]<;>rfl)) ?_
  refine Can.trans (Can.ownSlot 4 22 3 1 (by simp only[go_sem,seval]<;>rfl) (by simp only[go_sem,seval]) (by simp only[go_sem,seval]<;>rfl)) ?_
  refine Can.wk ?_ ?_
  ·first|trivial|(simp[a0_])
  ·first|trivial|(simp[a0_,an_,inR])
 refine .seq (.seq (.rg [] ?_))
 refine .cB (fun h17=>?_) (fun h17=>?_)
 ·refine .skip (.seq (.block (.seq (.seq (.rgo [] ?_ ?_ (h:=by simp only[go_sem,seval,l5_ (show k<l.length by simpa using h17)];rfl))))))
  ·simp at h17;simp;omega
  refine .cB (fun h25=>?_) (fun h25=>?_)
  ·refine .exit (.rg [] ?_)
   refine Exists.intro (k+1) ⟨?_,?_,?_⟩
   ·have hk:k<l.length:=(by simpa using h17);have e:=g8_ hk (by simpa using h25);exact⟨by omega,by rw[e];exact hI.2⟩
   ·simp at h17;omega
   refine Can.wk ?_ ?_
   ·first|trivial|((have hk:k<l.length:=(by simpa using h17));(have e:=g8_ hk (by simpa using h25));rw[e,aj_ (by omega) (by omega)];simp)
   ·first|trivial|((have hk:k<l.length:=(by simpa using h17));(have e:=g8_ hk (by simpa using h25));rw[e];simp)
  ·refine .skip (.seq (.rgo [kh_ (aq3_ (l.getD k B0) (a0_ (l.take k)).names (a0_ (l.take k)).nums (F1 k (by simpa using h17) (by simpa using h25)) (F2 k (by simpa using h17)) (ea_ hI.1 hb).1 (by have:=(ea_ hI.1 hb).2.1;omega))] ?_ ?_ (h:=by simp only[go_sem,seval,l5_ (show k<l.length by simpa using h17)];rfl)))
   ·simp at h17;simp[T1_,al_,as_,af_];omega
   refine .block (.seq (.rg [] ?_))
   refine .cB (fun h37=>?_) (fun h37=>?_)
   ·refine .seq (.rg [] ?_)
    refine .ret ⟨.inr rfl,?_⟩
    exact Out.mm (by simp only[Tryz.results189];rfl) (by simp only[ag_,rns,rn,go_sem,seval]<;>(rw[mn_ hs (by simpa using h17) hI.2 (by simpa using h25) (by simpa using h37)];try simp)) (by simp only[at_,go_sem,seval]<;>(rw[mn_ hs (by simpa using h17) hI.2 (by simpa using h25) (by simpa using h37)];(try simp[be_,ao_])))
   ·refine .seq (.rgo [] ?_ ?_ (h:=by simp only[go_sem,seval,l5_ (show k<l.length by simpa using h17)];rfl))
    ·simp at h17;simp;omega
    refine .cB (fun h41=>?_) (fun h41=>?_)
    ·refine .seq (.rgo [] ?_ ?_ (h:=by simp only[go_sem,seval,l5_ (show k<l.length by simpa using h17)];rfl))
     ·have:=ea_ hI.1 hb;simp at h17;simp;omega
     refine .rgo [] ?_ ?_
     ·have:=ea_ hI.1 hb;simp;omega
     refine .rg [] ?_
     refine Exists.intro (k+1) ⟨?_,?_,?_⟩
     ·have hk:k<l.length:=(by simpa using h17);have e:=ja_ hk hI.2 (by simpa using h41) (by simpa using h37);exact⟨by omega,by rw[e];exact hI.2⟩
     ·simp at h17;omega
     refine Can.trans (Can.sX 65 20) ?_
     refine Can.trans (Can.sX 69 21) ?_
     refine Can.wk ?_ ?_
     ·first|trivial|((have hk:k<l.length:=(by simpa using h17));(have e:=ja_ hk hI.2 (by simpa using h41) (by simpa using h37));rw[e,aj_ (by omega) (by omega)];simp)
     ·first|trivial|((have hk:k<l.length:=(by simpa using h17));(have e:=ja_ hk hI.2 (by simpa using h41) (by simpa using h37));rw[e];simp[k7_,c2_])
    ·refine .seq (.rgo [] ?_ ?_ (h:=by simp only[go_sem,seval,l5_ (show k<l.length by simpa using h17)];rfl))
     ·simp at h17;simp;omega
     refine .cB (fun h60=>?_) (fun h60=>?_)
     ·refine .rgo [] ?_ ?_
      ·have:=ea_ hI.1 hb;simp;omega
      refine .rg [] ?_
      refine Exists.intro (k+1) ⟨?_,?_,?_⟩
      ·have hk:k<l.length:=(by simpa using h17);have e:=fs_ hk hI.2 (by simpa using h25) (by simpa using h41) (by simpa using h37) (.inl (by simpa using h60));exact⟨by omega,by rw[e];exact hI.2⟩
      ·simp at h17;omega
      refine Can.trans (Can.sX 80 22) ?_
      refine Can.wk ?_ ?_
      ·first|trivial|((have hk:k<l.length:=(by simpa using h17));(have e:=fs_ hk hI.2 (by simpa using h25) (by simpa using h41) (by simpa using h37) (.inl (by simpa using h60)));rw[e,aj_ (by omega) (by omega)];simp)
      ·first|trivial|((have hk:k<l.length:=(by simpa using h17));(have e:=fs_ hk hI.2 (by simpa using h25) (by simpa using h41) (by simpa using h37) (.inl (by simpa using h60)));rw[e,adr_ (by simpa using h60)];simp[c2_])
     ·refine .seq (.rg [] ?_)
      refine .cB (fun h71=>?_) (fun h71=>?_)
      ·refine .rgo [] ?_ ?_
       ·have:=ea_ hI.1 hb;simp;omega
       refine .rg [] ?_
       refine Exists.intro (k+1) ⟨?_,?_,?_⟩
       ·have hk:k<l.length:=(by simpa using h17);have e:=fs_ hk hI.2 (by simpa using h25) (by simpa using h41) (by simpa using h37) (.inr (by simpa using h71));exact⟨by omega,by rw[e];exact hI.2⟩
       ·simp at h17;omega
       refine Can.trans (Can.sX 87 22) ?_
       refine Can.wk ?_ ?_
       ·first|trivial|((have hk:k<l.length:=(by simpa using h17));(have e:=fs_ hk hI.2 (by simpa using h25) (by simpa using h41) (by simpa using h37) (.inr (by simpa using h71)));rw[e,aj_ (by omega) (by omega)];simp)
       ·first|trivial|((have hk:k<l.length:=(by simpa using h17));(have e:=fs_ hk hI.2 (by simpa using h25) (by simpa using h41) (by simpa using h37) (.inr (by simpa using h71)));rw[e,t3_ (F3 k hk (by simpa using h25) (by simpa using h41) (by simpa using h60)) (by simpa using h37)];simp[c2_])
      ·refine .skip (.rg [] ?_)
       refine Exists.intro (k+1) ⟨?_,?_,?_⟩
       ·have hk:k<l.length:=(by simpa using h17);have e:=hg_ hk hI.2 (by simpa using h25) (by simpa using h41) (by simpa using h37) (by simpa using h60) (by simpa using h71);exact⟨by omega,by rw[e];exact hI.2⟩
       ·simp at h17;omega
       refine Can.wk ?_ ?_
       ·first|trivial|((have hk:k<l.length:=(by simpa using h17));(have e:=hg_ hk hI.2 (by simpa using h25) (by simpa using h41) (by simpa using h37) (by simpa using h60) (by simpa using h71));rw[e,aj_ (by omega) (by omega)];simp)
       ·first|trivial|((have hk:k<l.length:=(by simpa using h17));(have e:=hg_ hk hI.2 (by simpa using h25) (by simpa using h41) (by simpa using h37) (by simpa using h60) (by simpa using h71));rw[e];simp)
 ·refine .exit (.seq (.rg [] ?_))
  refine .ret ⟨.inr rfl,?_⟩
  exact Out.mm (by simp only[Tryz.results189];rfl) (by simp only[ag_,rns,rn,go_sem,seval]<;>(rw[oy_ hs (by simpa using h17) hI.2];try simp)) (by simp only[at_,go_sem,seval]<;>(rw[oy_ hs (by simpa using h17) hI.2];(try simp[be_,ao_])))
attribute [local go_sem] bx_ jd_ cz_ ao_ dx_ br_ tSlE in
theorem ad1_ (l:List Bl) (hs:allB l=true) (hl:l.length<4611686018427387904):ACall En 123 [.sl false (bLR l)] [] [.ow 0 1 0 (j3_ l).1.length,.b (j3_ l).2] [⟨3,1,inR (j3_ l).1⟩]:=by
 refine aa_ [33] Tryz.func123 Tryz.ntmps123 fun C=>?_
 refine .seq (.rg [] ?_)
 refine .seq (.seq (.rg [ab_ (ayo_ l hs hl)] ?_))
 refine .cB (fun h9=>?_) (fun h9=>?_)
 ·refine .seq (.rg [] ?_)
  refine .can (Can.ownSlot 2 33 3 1 (by simp only[go_sem,seval]<;>rfl) (by simp only[go_sem,seval]) (by simp only[go_sem,seval]<;>rfl)) ?_
  refine .ret ⟨.inr rfl,?_⟩
  exact Out.mm (by simp only[Tryz.results123];rfl) (by simp only[ag_,rns,rn,go_sem,seval]<;>(rw[o1_ (by simpa using h9)];simp)) (by simp only[at_,go_sem,seval]<;>(rw[o1_ (by simpa using h9)];simp[inR]))
 ·refine .skip (.seq (.rg [] ?_))
  refine .seqJ (fun u:Unit=>⟨[.no,.no,.no,.no,.sl false (sR (l.map ra_)),.no,.no,.no,.no,.no,.no,.no,.no,.no,.no,.no,.no,.no,.no,.no,.no,.no,.no,.no,.no,.no,.no,.no,.no,.no,.no,.no,.no,.no,.no,.no,.no,.no],ak_ [],us []⟩) (fun u:Unit=>True) ?_ (fun u hJ=>?_)
  ·refine .seq (.rg [] ?_)
   refine .block (.loopK (fun k:Nat=>⟨[.sl false (bLR l),.no,.no,.no,.ow 60 11 0 k,.i .i64 k,.no,.no,.no,.no,.no,.no,.no,.no,.no,.no,.no,.no,.no,.no,.no,.no,.no,.no,.no,.no,.no,.no,.no,.no,.no,.no,.no,.no,.no,.no,.no,.no],ak_ [(60,⟨58,11,sR ((l.map ra_).take k)⟩)],us [60]⟩) (fun k:Nat=>k≤l.length) (fun k:Nat=>l.length - k) (0) ?_ ?_ (fun k hI=>?_))
   ·simp
   ·refine Can.trans (Can.ownSlot 4 60 58 11 (by simp only[go_sem,seval]<;>rfl) (by simp only[go_sem,seval]) (by simp only[go_sem,seval]<;>rfl)) ?_
    refine Can.wk ?_ ?_
    ·first|trivial|(simp)
    ·first|trivial|(simp[sR])
   refine .seq (.seq (.rg [] ?_))
   refine .cB (fun h15=>?_) (fun h15=>?_)
   ·refine .skip (.seq (.block (.seq (.rgo [] ?_ ?_ (h:=by simp only[go_sem,seval,ts_ (show k<l.length by simpa using h15)];rfl)))))
    ·simp at h15;simp;omega
    refine .rgo [] ?_ ?_
    ·have h9':lok l=true:=(by simpa using h9);have:=(dd_ h9').2.1;simp[auu_,a7_,ep_];omega
    refine .rg [] ?_
    refine Exists.intro (k+1) ⟨?_,?_,?_⟩
    ·simp at h15;omega
    ·simp at h15;omega
    refine Can.trans (Can.sX 43 60) ?_
    refine Can.wk ?_ ?_
    ·first|trivial|(rw[aj_ (by simp at h15;omega) (by simp at h15;omega)];simp)
    ·first|trivial|((have hk:k<l.length:=(by simpa using h15));rw[List.take_add_one,aw7_];simp[sR,T6_ hk,br_,tSlE,T8_])
   ·refine .exit ?_
    refine Exists.intro (()) ⟨?_,?_⟩
    ·trivial
    refine Can.trans (Can.frz 60 (by simp only[go_sem,seval]<;>rfl) (by simp only[go_sem,seval]) (by simp only[go_sem,seval]<;>rfl) (by simp only[go_sem,seval]<;>rfl)) ?_
    refine Can.wh ?_;first|trivial|(simp at h15;(obtain rfl:k=l.length:=(by omega));simp[T1_,ac3_,ep_,leV,af_])
  refine .seq (.rg [bf_ [] [33] (ane_ l (by simpa using h9))] ?_)
  refine .ret ⟨.inr rfl,?_⟩
  exact Out.mm (by simp only[Tryz.results123];rfl) (by simp only[ag_,rns,rn,go_sem,seval]<;>(rfl)) (by simp only[at_,go_sem,seval]<;>(simp[be_,ao_]))
end
section
set_option maxRecDepth 100000
set_option maxHeartbeats 4000000
attribute [local go_sem] as_ ao_ br_ in
theorem alp_ (s:Sl) (N:List Str) (M:List Int) (h:form s.expr ((5:Nat):Int)=true) (h2:s.kind=3→form s.thn ((5:Nat):Int)=true) (hl:N.length=M.length) (hn:N.length≤1000000) :
  ACall En 193 [.ag (sC s),.sl false (an_ N),.sl false (inR M)] [] [.i .i64 (rk s.expr N M).1,.i .i64 (so_ (ofS s) N M),.b (dc_ (ofS s) N M).2.2] []:=by
 have e1:(ofS s).expr=s.expr:=rfl
 have e2:(ofS s).thn=s.thn:=rfl
 have e3:(ofS s).kind=s.kind:=rfl
 refine aa_ [] Tryz.func193 Tryz.ntmps193 fun C=>?_
 refine .seq (.rg [] ?_)
 refine .seq (.rg [ab_ (ajc_ 5 s.expr N M h hl hn)] ?_)
 refine .seq (.seq (.rg [] ?_))
 refine .cB (fun h27=>?_) (fun h27=>?_)
 ·refine .seq (.rg [] ?_)
  refine .ret ⟨.inr rfl,?_⟩
  exact Out.pl (by simp only[Tryz.results193];rfl) (by simp only[ag_,go_sem,seval]<;>(unfold dc_ so_;simp at h27;(by_cases hk:s.kind=3<;>simp_all)))
 ·refine .skip (.seq (.rg [ab_ (ajc_ 5 s.thn N M (h2 (by simp at h27;exact h27.1)) hl hn)] ?_))
  refine .seq (.rg [] ?_)
  refine .ret ⟨.inr rfl,?_⟩
  exact Out.pl (by simp only[Tryz.results193];rfl) (by simp only[ag_,go_sem,seval]<;>(unfold dc_ so_;simp at h27;simp[h27,e1,e2,e3]))
attribute [local go_sem] ep_ dx_ as_ ao_ br_ in
theorem ad4_ (l:List Sl) (sm:oh_ l=true) (hl:l.length<4611686018427387904):ACall En 126 [.sl false (sR l)] [] [.ow 0 1 0 (hf_ l).1.length,.b (hf_ l).2] [⟨3,1,inR (hf_ l).1⟩]:=by
 have F1:∀k,pok l=true→k<l.length→¬(l.getD k S0).kind=0→form (l.getD k S0).expr ((5:Nat):Int)=true:=fun k hs hk hk0=>ay_ (o5_ ((a3_ hs).2.2 k hk) hk0)
 have F2:∀k,pok l=true→k<l.length→(l.getD k S0).kind=3→form (l.getD k S0).thn ((5:Nat):Int)=true:=fun k hs hk hk0=>ay_ (tp_ ((a3_ hs).2.2 k hk) hk0)
 have F3:∀k,pok l=true→k<l.length→¬(l.getD k S0).kind=0→¬(l.getD k S0).kind=1→¬(l.getD k S0).kind=2→(l.getD k S0).kind=3:=fun k hs hk a b c=>by have:=adb_ ((a3_ hs).2.2 k hk);omega
 refine aa_ [22] Tryz.func126 Tryz.ntmps126 fun C=>?_
 refine .seq (.rgo [] ?_ ?_)
 ·(first|trivial|(simp;done)|(simp at h22;simp;omega)|(simp[T1_,al_,as_,af_];done)|(have:=ba_ hI.1 (a3_ hI.2.2).2.1;simp;omega))
 refine .seq (.rgo [] ?_ ?_)
 ·(first|trivial|(simp;done)|(simp at h22;simp;omega)|(simp[T1_,al_,as_,af_];done)|(have:=ba_ hI.1 (a3_ hI.2.2).2.1;simp;omega))
 refine .seq (.seq (.rgo [ab_ (qz_ l sm hl)] ?_ ?_))
 ·(first|trivial|(simp;done)|(simp at h22;simp;omega)|(simp[T1_,al_,as_,af_];done)|(have:=ba_ hI.1 (a3_ hI.2.2).2.1;simp;omega))
 refine .cB (fun h15=>?_) (fun h15=>?_)
 ·refine .seq (.rgo [] ?_ ?_)
  ·(first|trivial|(simp;done)|(simp at h22;simp;omega)|(simp[T1_,al_,as_,af_];done)|(have:=ba_ hI.1 (a3_ hI.2.2).2.1;simp;omega))
  refine .can (Can.ownSlot 2 22 3 1 (by simp only[go_sem,seval]<;>rfl) (by simp only[go_sem,seval]) (by simp only[go_sem,seval]<;>rfl)) ?_
  refine .ret ⟨.inr rfl,?_⟩
  exact Out.mm (by simp only[Tryz.results126];rfl) (by simp only[ag_,rns,rn,go_sem,seval]<;>(rw[p7_ (by simpa using h15)];simp)) (by simp only[at_,go_sem,seval]<;>(rw[p7_ (by simpa using h15)];simp[inR]))
 ·refine .skip (.seq (.rgo [] ?_ ?_))
  ·(first|trivial|(simp;done)|(simp at h22;simp;omega)|(simp[T1_,al_,as_,af_];done)|(have:=ba_ hI.1 (a3_ hI.2.2).2.1;simp;omega))
  refine .seq (.rgo [] ?_ ?_)
  ·(first|trivial|(simp;done)|(simp at h22;simp;omega)|(simp[T1_,al_,as_,af_];done)|(have:=ba_ hI.1 (a3_ hI.2.2).2.1;simp;omega))
  refine .seq (.seq (.rgo [] ?_ ?_))
  ·(first|trivial|(simp;done)|(simp at h22;simp;omega)|(simp[T1_,al_,as_,af_];done)|(have:=ba_ hI.1 (a3_ hI.2.2).2.1;simp;omega))
  refine .block (.loopK (fun k:Nat=>⟨[.sl false (sR l),.no,.no,.no,.ow 22 1 0 (a0_ ((l.map ofS).take k)).said.length,.ow 20 1 0 (a0_ ((l.map ofS).take k)).names.length,.ow 21 1 0 (a0_ ((l.map ofS).take k)).nums.length,.i .i64 k,.no,.no,.no,.no,.no,.no,.no,.no,.no,.no,.no,.no,.no,.no,.no,.no,.no,.no,.no,.no,.no,.no,.no,.no,.no,.no,.no,.no,.no,.no,.no,.no,.no,.no,.no,.no,.no,.no,.no,.no,.no,.no,.no,.no,.no,.no,.no,.no,.no,.no,.no,.no,.no,.no,.no,.no,.no,.no,.no,.no,.no,.no,.no,.no,.no],ak_ [(20,⟨9,1,an_ (a0_ ((l.map ofS).take k)).names⟩),(21,⟨3,1,inR (a0_ ((l.map ofS).take k)).nums⟩),(22,⟨3,1,inR (a0_ ((l.map ofS).take k)).said⟩)],us [20,21,22]⟩) (fun k:Nat=>k≤l.length∧(a0_ ((l.map ofS).take k)).ok=true∧pok l=true) (fun k:Nat=>l.length - k) (0) ?_ ?_ (fun k hI=>?_))
  ·exact⟨Nat.zero_le _,by simp[a0_],by simpa using h15⟩
  ·refine Can.trans (Can.ownSlot 5 20 9 1 (by simp only[go_sem,seval]<;>rfl) (by simp only[go_sem,seval]) (by simp only[go_sem,seval]<;>rfl)) ?_
   refine Can.trans (Can.ownSlot 6 21 3 1 (by simp only[go_sem,seval]<;>rfl) (by simp only[go_sem,seval]) (by simp only[go_sem,seval]<;>rfl)) ?_
   refine Can.trans (Can.ownSlot 4 22 3 1 (by simp only[go_sem,seval]<;>rfl) (by simp only[go_sem,seval]) (by simp only[go_sem,seval]<;>rfl)) ?_
   refine Can.wk ?_ ?_
   ·first|trivial|(simp[a0_])
   ·first|trivial|(simp[a0_,an_,inR])
  refine .seq (.seq (.rgo [] ?_ ?_))
  ·(first|trivial|(simp;done)|(simp at h22;simp;omega)|(simp[T1_,al_,as_,af_];done)|(have:=ba_ hI.1 (a3_ hI.2.2).2.1;simp;omega))
  refine .cB (fun h22=>?_) (fun h22=>?_)
  ·refine .skip (.seq (.block (.seq (.rgo [] ?_ ?_ (h:=by simp only[go_sem,seval,k0_ (show k<l.length by simpa using h22),br_];rfl)))))
   ·(first|trivial|(simp;done)|(simp at h22;simp;omega)|(simp[T1_,al_,as_,af_];done)|(have:=ba_ hI.1 (a3_ hI.2.2).2.1;simp;omega))
   refine .seq (.seq (.rgo [] ?_ ?_))
   ·(first|trivial|(simp;done)|(simp at h22;simp;omega)|(simp[T1_,al_,as_,af_];done)|(have:=ba_ hI.1 (a3_ hI.2.2).2.1;simp;omega))
   refine .cB (fun h31=>?_) (fun h31=>?_)
   ·refine .exit (.rgo [] ?_ ?_)
    ·(first|trivial|(simp;done)|(simp at h22;simp;omega)|(simp[T1_,al_,as_,af_];done)|(have:=ba_ hI.1 (a3_ hI.2.2).2.1;simp;omega))
    refine Exists.intro (k+1) ⟨?_,?_,?_⟩
    ·have hk:k<l.length:=(by simpa using h22);have e:=hh_ hk (by simpa using h31);exact⟨by omega,by rw[e];exact hI.2.1,hI.2.2⟩
    ·simp at h22;omega
    refine Can.wk ?_ ?_
    ·first|trivial|((have hk:k<l.length:=(by simpa using h22));(have e:=hh_ hk (by simpa using h31));rw[e,aj_ (by omega) (by omega)];simp)
    ·first|trivial|((have hk:k<l.length:=(by simpa using h22));(have e:=hh_ hk (by simpa using h31));rw[e];simp)
   ·refine .skip (.seq (.rgo [kh_ (alp_ (l.getD k S0) (a0_ ((l.map ofS).take k)).names (a0_ ((l.map ofS).take k)).nums (F1 k hI.2.2 (by simpa using h22) (by simpa using h31)) (F2 k hI.2.2 (by simpa using h22)) (ba_ hI.1 (a3_ hI.2.2).2.1).1 (by have:=(ba_ hI.1 (a3_ hI.2.2).2.1).2.1;omega))] ?_ ?_))
    ·(first|trivial|(simp;done)|(simp at h22;simp;omega)|(simp[T1_,al_,as_,af_];done)|(have:=ba_ hI.1 (a3_ hI.2.2).2.1;simp;omega))
    refine .block (.seq (.rgo [] ?_ ?_))
    ·(first|trivial|(simp;done)|(simp at h22;simp;omega)|(simp[T1_,al_,as_,af_];done)|(have:=ba_ hI.1 (a3_ hI.2.2).2.1;simp;omega))
    refine .cB (fun h40=>?_) (fun h40=>?_)
    ·refine .seq (.rgo [] ?_ ?_)
     ·(first|trivial|(simp;done)|(simp at h22;simp;omega)|(simp[T1_,al_,as_,af_];done)|(have:=ba_ hI.1 (a3_ hI.2.2).2.1;simp;omega))
     refine .ret ⟨.inr rfl,?_⟩
     exact Out.mm (by simp only[Tryz.results126];rfl) (by simp only[ag_,rns,rn,go_sem,seval]<;>(rw[mp_ hI.2.2 (by simpa using h22) hI.2.1 (by simpa using h31) (by simpa using h40)];try simp)) (by simp only[at_,go_sem,seval]<;>(rw[mp_ hI.2.2 (by simpa using h22) hI.2.1 (by simpa using h31) (by simpa using h40)];(try simp[be_,ao_])))
    ·refine .seq (.rgo [] ?_ ?_)
     ·(first|trivial|(simp;done)|(simp at h22;simp;omega)|(simp[T1_,al_,as_,af_];done)|(have:=ba_ hI.1 (a3_ hI.2.2).2.1;simp;omega))
     refine .cB (fun h44=>?_) (fun h44=>?_)
     ·refine .seq (.rgo [] ?_ ?_)
      ·(first|trivial|(simp;done)|(simp at h22;simp;omega)|(simp[T1_,al_,as_,af_];done)|(have:=ba_ hI.1 (a3_ hI.2.2).2.1;simp;omega))
      refine .rgo [] ?_ ?_
      ·(first|trivial|(simp;done)|(simp at h22;simp;omega)|(simp[T1_,al_,as_,af_];done)|(have:=ba_ hI.1 (a3_ hI.2.2).2.1;simp;omega))
      refine .rgo [] ?_ ?_
      ·(first|trivial|(simp;done)|(simp at h22;simp;omega)|(simp[T1_,al_,as_,af_];done)|(have:=ba_ hI.1 (a3_ hI.2.2).2.1;simp;omega))
      refine Exists.intro (k+1) ⟨?_,?_,?_⟩
      ·have hk:k<l.length:=(by simpa using h22);have e:=iu_ hk hI.2.1 (by simpa using h44) (by simpa using h40);exact⟨by omega,by rw[e];exact hI.2.1,hI.2.2⟩
      ·simp at h22;omega
      refine Can.trans (Can.sX 62 20) ?_
      refine Can.trans (Can.sX 66 21) ?_
      refine Can.wk ?_ ?_
      ·first|trivial|((have hk:k<l.length:=(by simpa using h22));(have e:=iu_ hk hI.2.1 (by simpa using h44) (by simpa using h40));rw[e,aj_ (by omega) (by omega)];simp)
      ·first|trivial|((have hk:k<l.length:=(by simpa using h22));(have e:=iu_ hk hI.2.1 (by simpa using h44) (by simpa using h40));rw[e];simp[k7_,c2_])
     ·refine .seq (.rgo [] ?_ ?_)
      ·(first|trivial|(simp;done)|(simp at h22;simp;omega)|(simp[T1_,al_,as_,af_];done)|(have:=ba_ hI.1 (a3_ hI.2.2).2.1;simp;omega))
      refine .cB (fun h57=>?_) (fun h57=>?_)
      ·refine .rgo [] ?_ ?_
       ·(first|trivial|(simp;done)|(simp at h22;simp;omega)|(simp[T1_,al_,as_,af_];done)|(have:=ba_ hI.1 (a3_ hI.2.2).2.1;simp;omega))
       refine .rgo [] ?_ ?_
       ·(first|trivial|(simp;done)|(simp at h22;simp;omega)|(simp[T1_,al_,as_,af_];done)|(have:=ba_ hI.1 (a3_ hI.2.2).2.1;simp;omega))
       refine Exists.intro (k+1) ⟨?_,?_,?_⟩
       ·have hk:k<l.length:=(by simpa using h22);have e:=e9_ hk hI.2.1 (by simpa using h31) (by simpa using h44) (by simpa using h40) (.inl (by simpa using h57));exact⟨by omega,by rw[e];exact hI.2.1,hI.2.2⟩
       ·simp at h22;omega
       refine Can.trans (Can.sX 74 22) ?_
       refine Can.wk ?_ ?_
       ·first|trivial|((have hk:k<l.length:=(by simpa using h22));(have e:=e9_ hk hI.2.1 (by simpa using h31) (by simpa using h44) (by simpa using h40) (.inl (by simpa using h57)));rw[e,aj_ (by omega) (by omega)];simp)
       ·first|trivial|((have hk:k<l.length:=(by simpa using h22));(have e:=e9_ hk hI.2.1 (by simpa using h31) (by simpa using h44) (by simpa using h40) (.inl (by simpa using h57)));rw[e,adr_ (b:=ofS (l.getD k S0)) (by simpa using h57)];simp[c2_])
      ·refine .seq (.rgo [] ?_ ?_)
       ·(first|trivial|(simp;done)|(simp at h22;simp;omega)|(simp[T1_,al_,as_,af_];done)|(have:=ba_ hI.1 (a3_ hI.2.2).2.1;simp;omega))
       refine .cB (fun h65=>?_) (fun h65=>?_)
       ·refine .rgo [] ?_ ?_
        ·(first|trivial|(simp;done)|(simp at h22;simp;omega)|(simp[T1_,al_,as_,af_];done)|(have:=ba_ hI.1 (a3_ hI.2.2).2.1;simp;omega))
        refine .rgo [] ?_ ?_
        ·(first|trivial|(simp;done)|(simp at h22;simp;omega)|(simp[T1_,al_,as_,af_];done)|(have:=ba_ hI.1 (a3_ hI.2.2).2.1;simp;omega))
        refine Exists.intro (k+1) ⟨?_,?_,?_⟩
        ·have hk:k<l.length:=(by simpa using h22);have e:=e9_ hk hI.2.1 (by simpa using h31) (by simpa using h44) (by simpa using h40) (.inr (by simpa using h65));exact⟨by omega,by rw[e];exact hI.2.1,hI.2.2⟩
        ·simp at h22;omega
        refine Can.trans (Can.sX 81 22) ?_
        refine Can.wk ?_ ?_
        ·first|trivial|((have hk:k<l.length:=(by simpa using h22));(have e:=e9_ hk hI.2.1 (by simpa using h31) (by simpa using h44) (by simpa using h40) (.inr (by simpa using h65)));rw[e,aj_ (by omega) (by omega)];simp)
        ·first|trivial|((have hk:k<l.length:=(by simpa using h22));(have e:=e9_ hk hI.2.1 (by simpa using h31) (by simpa using h44) (by simpa using h40) (.inr (by simpa using h65)));rw[e,t3_ (b:=ofS (l.getD k S0)) (F3 k hI.2.2 hk (by simpa using h31) (by simpa using h44) (by simpa using h57)) (by simpa using h40)];simp[c2_])
       ·refine .skip (.rgo [] ?_ ?_)
        ·(first|trivial|(simp;done)|(simp at h22;simp;omega)|(simp[T1_,al_,as_,af_];done)|(have:=ba_ hI.1 (a3_ hI.2.2).2.1;simp;omega))
        refine Exists.intro (k+1) ⟨?_,?_,?_⟩
        ·have hk:k<l.length:=(by simpa using h22);have e:=hd_ hk hI.2.1 (by simpa using h31) (by simpa using h44) (by simpa using h40) (by simpa using h57) (by simpa using h65);exact⟨by omega,by rw[e];exact hI.2.1,hI.2.2⟩
        ·simp at h22;omega
        refine Can.wk ?_ ?_
        ·first|trivial|((have hk:k<l.length:=(by simpa using h22));(have e:=hd_ hk hI.2.1 (by simpa using h31) (by simpa using h44) (by simpa using h40) (by simpa using h57) (by simpa using h65));rw[e,aj_ (by omega) (by omega)];simp)
        ·first|trivial|((have hk:k<l.length:=(by simpa using h22));(have e:=hd_ hk hI.2.1 (by simpa using h31) (by simpa using h44) (by simpa using h40) (by simpa using h57) (by simpa using h65));rw[e];simp)
  ·refine .exit (.seq (.rgo [] ?_ ?_))
   ·(first|trivial|(simp;done)|(simp at h22;simp;omega)|(simp[T1_,al_,as_,af_];done)|(have:=ba_ hI.1 (a3_ hI.2.2).2.1;simp;omega))
   refine .ret ⟨.inr rfl,?_⟩
   exact Out.mm (by simp only[Tryz.results126];rfl) (by simp only[ag_,rns,rn,go_sem,seval]<;>(rw[p3_ hI.2.2 (by simpa using h22) hI.2.1];try simp)) (by simp only[at_,go_sem,seval]<;>(rw[p3_ hI.2.2 (by simpa using h22) hI.2.1];(try simp[be_,ao_])))
theorem afm_ (l:List Sl) (hs:oh_ l=true) (hl:l.length<4611686018427387904):ACall En 126 [.sl false (sR l)] [] [.sl false (inR (hf_ l).1),.b (hf_ l).2] []:=
 ACall.frz1 (ad4_ l hs hl) (by simp[er_,frz,as_,T1_])
end
section
open Go.RowKit
set_option maxRecDepth 100000
theorem abb_ {φ:Phi} {S:Nat→Prop} {w:World}:∀l:List Str,VRr φ S w 1 (an_ l) (l.map fun s=>Value.string ⟨s.toArray⟩)
 |[]=>by simp only[an_,List.map_nil];exact VRr.nil
 |s::l=>by
  simp only[an_,List.map_cons]
  exact VRr.cons (ys:=[.string ⟨s.toArray⟩]) rfl (.cons (by simp only[VR]) .nil) (fun u hu=>by simp at hu;subst hu;rfl) (abb_ l)
theorem avy_ (s:Str) (hs:s.length≤1000000):ACall En 13 [.s s,.s [10]] [] [.sl false (an_ (spl s))] []:=by
 refine f3_ (fn:=Tryz.f13) Tryz.func13 rfl rfl fun S w xs hx _ ⟨B,hB,_⟩=>?_
 simp only[VRs,VR]at hx
 obtain⟨x,r,e1,rfl,y,q,e2,rfl,rfl⟩:=hx
 subst e2
 obtain rfl:xs=#[.string ⟨s.toArray⟩,.string ⟨[10].toArray⟩]:=by apply Array.ext';simpa using e1
 obtain⟨m,hm⟩:=hB.maxl
 have hd:(⟨s.toArray⟩:ByteArray).data.toList=s:=by simp
 have hk:(Lib.splitB ⟨[10].toArray⟩ 0 (Lib.countB ⟨s.toArray⟩ ⟨[10].toArray⟩) ⟨s.toArray⟩).map (·.data.toList)=spl s:=by
  rw[Lib.splitB_data]
  exact yb_ s.length s (Nat.le_refl _)
 have hv:(Lib.splitB ⟨[10].toArray⟩ 0 (Lib.countB ⟨s.toArray⟩ ⟨[10].toArray⟩) ⟨s.toArray⟩).map Value.string=(spl s).map fun s=>Value.string ⟨s.toArray⟩:=by
  rw[←hk,List.map_map]
  exact List.map_congr_left fun b _=>by cases b;simp
 have hl:(spl s).length=Lib.countB ⟨s.toArray⟩ ⟨[10].toArray⟩+1:=by
  rw[←hk,List.length_map]
  exact Lib.splitB_all _ (by simp[ByteArray.size]) 0 _ _ rfl
 refine(Tryz.strings_Split ⟨s.toArray⟩ ⟨[10].toArray⟩ m w (by simp[ByteArray.size];omega) hm (by simp[ByteArray.size])).mono ?_
 rintro e w' ⟨rfl,rfl⟩
 rw[hv,←hl]
 refine⟨[_],rfl,Joins.below_alloc1 _ _,.cons ?_ .nil⟩
 have:=tt_ s
 simp only[VR,al_]
 refine⟨some ⟨w.heap.size,0,none⟩,(spl s).length,1,(spl s).map fun s=>.string ⟨s.toArray⟩,rfl,Nat.le_refl _,by unfold maxLen;omega,fun e=>(by simp at e),fun _=>⟨w.heap.size,0,rfl,.inr (Nat.le_refl _),by show _<(w.heap.push _).size;rw[Array.size_push];exact Nat.lt_succ_self _,fun j u hu=>?_⟩,abb_ (spl s)⟩
 rw[Joins.cell_alloc_mark_at w _ _ _ _ _ rfl]
 simpa using hu
end
section
open Go.RowKit
set_option maxRecDepth 100000
def of_ (s:Str):Bool:=s.contains 10
theorem ast_ (s:Str):ACall En 127 [.s s,.s [10]] [] [.b (of_ s)] []:=by
 refine f3_ (fn:=Tryz.f127) Tryz.func127 rfl rfl fun S w xs hx _ _=>?_
 simp only[VRs,VR]at hx
 obtain⟨x,r,e1,rfl,y,q,e2,rfl,rfl⟩:=hx
 subst e2
 obtain rfl:xs=#[.string ⟨s.toArray⟩,.string ⟨[10].toArray⟩]:=by apply Array.ext';simpa using e1
 refine(Tryz.strings_Contains_one ⟨s.toArray⟩ 10 w).mono ?_
 rintro e w' ⟨rfl,rfl⟩
 refine⟨[_],rfl,Below.refl _ _,.cons ?_ .nil⟩
 simp only[VR,of_]
 rw[Lib.contains_iff_indexByte]
end
section
def Dn (s' s:RS) (k:Int):Prop:=s.deep≤s'.deep∧s'.deep+s'.left.length≤s.deep+s.left.length+k∧s'.left.length≤s.left.length
theorem Dn.refl (s:RS):Dn s s 0:=⟨Int.le_refl _,by omega,Nat.le_refl _⟩
theorem Dn.trans {a b c:RS} {k m:Int} (h:Dn a b k) (g:Dn b c m):Dn a c (k+m):=⟨by have:=h.1;have:=g.1;omega,by have:=h.2.1;have:=g.2.1;omega,by have:=h.2.2;have:=g.2.2;omega⟩
theorem Dn.le {a b:RS} {k m:Int} (h:Dn a b k) (hm:k≤m):Dn a b m:=⟨h.1,by have:=h.2.1;omega,h.2.2⟩
theorem Dn.next (s:RS):Dn (bb_ s) s (if s.left=[]then 0 else -1):=by
 unfold bb_ Dn
 cases h:s.left with
 |nil=>simp[h]
 |cons x r=>simp[h];omega
theorem Dn.nx (s:RS):Dn (bb_ s) s 0:=(Dn.next s).le (by split<;>omega)
theorem Dn.as (s:RS) (e:E):Dn (asR s e).2 s 0:=by
 have h1:=ah4_ s e
 have h2:=are_ s e
 exact⟨by omega,by omega,h1⟩
theorem Dn.bad (s:RS) (b:Bool):Dn { s with bad:=b } s 0:=⟨Int.le_refl _,by dsimp only;omega,Nat.le_refl _⟩
theorem apw_:∀n:Nat,(∀t s,Dn (b5_ n t s).2 s 0)∧(∀t e s,Dn (dk_ n t e s).2 s 0)∧(∀s,Dn (fl_ n s).2 s 0)∧(∀w s,Dn (ef_ n w s).2 s (if w=[40]then 1 else 0))
 |0=>⟨fun t s=>by simp only[b5_];exact Dn.refl s,fun t e s=>by simp only[dk_];exact Dn.refl s,fun s=>by simp only[fl_];exact Dn.refl s,fun w s=>by simp only[ef_];exact(Dn.refl s).le (by split<;>omega)⟩
 |n+1=>by
  obtain⟨h1,h2,h3,h4⟩:=apw_ n
  refine⟨fun t s=>?_,fun t e s=>?_,fun s=>?_,fun w s=>?_⟩
  ·simp only[b5_]
   split
   ·exact h3 s
   ·exact((h2 t _ _).trans (h1 (t+1) s)).le (by omega)
  ·simp only[dk_]
   split
   ·exact(((h2 t _ _).trans (h1 (t+1) _)).trans (Dn.nx s)).le (by omega)
   ·exact Dn.refl s
  ·simp only[fl_]
   refine(((Dn.as _ _).trans (h4 (bn_ s) (bb_ s))).trans (Dn.next s)).le ?_
   unfold bn_
   cases hl:s.left with
   |nil=>simp
   |cons x r=>simp only[reduceCtorEq,if_false];split<;>omega
  ·simp only[ef_]
   split
   ·split
    ·exact⟨by dsimp only;omega,by dsimp only;omega,Nat.le_refl _⟩
    ·have hD:Dn { s with deep:=s.deep+1 } s 1:=⟨by dsimp only;omega,by dsimp only;omega,Nat.le_refl _⟩
     dsimp only
     split
     ·exact((h1 1 _).trans hD).le (by omega)
     ·have q:=((Dn.nx (b5_ n 1 { s with deep:=s.deep+1 }).2).trans ((h1 1 _).trans hD)).le (m:=1) (by omega)
      exact⟨q.1,q.2.1,q.2.2⟩
   ·split
    ·exact Dn.refl s
    ·split
     ·exact Dn.refl s
     ·exact Dn.bad s true
def smW (l:List Str):Prop:=∀w∈l,w.length≤281474976710656
theorem jg_ {s:RS} (h:smW s.left):smW (bb_ s).left∧(bn_ s).length≤281474976710656:=by
 unfold bb_ bn_
 cases hl:s.left with
 |nil=>simp[smW,hl]
 |cons x r=>rw[hl]at h;exact⟨fun w hw=>h w (List.mem_cons_of_mem _ hw),h x List.mem_cons_self⟩
theorem agx_ {a b:E} {k n:Int} {s:Str} (hs:s.length<4611686018427387904) (ha:sm a=true) (hb:sm b=true):sm (.mk k n s [a,b])=true:=by simp[sm,sms,ha,hb,hs]
theorem afr_ {a:E} {k n:Int} {s:Str} (hs:s.length<4611686018427387904) (ha:sm a=true):sm (.mk k n s [a])=true:=by simp[sm,sms,ha,hs]
theorem s7_ {k n:Int} {s:Str} (hs:s.length<4611686018427387904):sm (.mk k n s [])=true:=by simp[sm,sms,hs]
theorem an9_:∀(l:List Str) (e:E) (d:Int),smW l→sm e=true→sm (asL l e d).1=true∧smW (asL l e d).2.left
 |[],e,d,h,he=>by simp only[asL];exact⟨he,h⟩
 |[w],e,d,h,he=>by
  simp only[asL];split
  ·exact⟨afr_ (by simp) he,fun w hw=>by cases hw⟩
  ·exact⟨he,h⟩
 |w::t::r,e,d,h,he=>by
  simp only[asL];split
  ·exact an9_ r _ d (fun x hx=>h x (by simp[hx])) (afr_ (Nat.lt_of_le_of_lt (h t (by simp)) (by decide)) he)
  ·exact⟨he,h⟩
theorem axm_ (s:RS) (e:E) (h:smW s.left) (he:sm e=true):sm (asR s e).1=true∧smW (asR s e).2.left:=by
 unfold asR;split
 ·exact⟨he,h⟩
 ·exact an9_ _ _ _ h he
theorem i_sm:∀n:Nat,(∀t s,smW s.left→sm (b5_ n t s).1=true∧smW (b5_ n t s).2.left)∧(∀t e s,sm e=true→smW s.left→sm (dk_ n t e s).1=true∧smW (dk_ n t e s).2.left)∧(∀s,smW s.left→sm (fl_ n s).1=true∧smW (fl_ n s).2.left)∧(∀w s,w.length<4611686018427387904→smW s.left→sm (ef_ n w s).1=true∧smW (ef_ n w s).2.left)
 |0=>⟨fun t s h=>by simp only[b5_];exact⟨by decide,h⟩,fun t e s he h=>by simp only[dk_];exact⟨he,h⟩,fun s h=>by simp only[fl_];exact⟨by decide,h⟩,fun w s hw h=>by simp only[ef_];exact⟨by decide,h⟩⟩
 |n+1=>by
  obtain⟨h1,h2,h3,h4⟩:=i_sm n
  refine⟨fun t s h=>?_,fun t e s he h=>?_,fun s h=>?_,fun w s hw h=>?_⟩
  ·simp only[b5_]
   split
   ·exact h3 s h
   ·exact h2 t _ _ (h1 (t+1) s h).1 (h1 (t+1) s h).2
  ·simp only[dk_]
   split
   ·have q:=h1 (t+1) (bb_ s) (jg_ h).1
    exact h2 t _ _ (agx_ (Nat.lt_of_le_of_lt (jg_ h).2 (by decide)) he q.1) q.2
   ·exact⟨he,h⟩
  ·simp only[fl_]
   have q:=h4 (bn_ s) (bb_ s) (Nat.lt_of_le_of_lt (jg_ h).2 (by decide)) (jg_ h).1
   exact axm_ _ _ q.2 q.1
  ·simp only[ef_]
   split
   ·split
    ·exact⟨(show sm E0=true by decide),h⟩
    ·have q:=h1 1 { s with deep:=s.deep+1 } h
     dsimp only
     refine⟨q.1,?_⟩
     split
     ·exact q.2
     ·exact(jg_ q.2).1
   ·split
    ·exact⟨s7_ (by simp),h⟩
    ·split
     ·exact⟨s7_ hw,h⟩
     ·exact⟨(show sm E0=true by decide),h⟩
end
section
theorem h2_ {w:List Str} {k:Nat} (h:w.getD k []≠[]):k<w.length:=by
 rcases Nat.lt_or_ge k w.length with q|q
 ·exact q
 ·exact absurd (by rw[T8_,List.getElem?_eq_none q];rfl) h
theorem aa1_ {w:List Str} {k:Nat} (h:bd_ (w.getD k [])=true):k<w.length:=h2_ fun e=>by rw[e]at h;simp only[bd_,T5_,beq_iff_eq]at h;exact fc_ _ h.2
theorem ajn_ {w:List Str} {k:Nat} (h:gw_ (w.getD k [])=true):k<w.length:=h2_ fun e=>by rw[e]at h;exact absurd h (by decide)
theorem u5_ {w:List Str} {k:Nat} (h:fe_ (w.getD k [])=true):k<w.length:=h2_ fun e=>by rw[e]at h;exact absurd h (by decide)
theorem z9_ {w:List Str} (h:smW w) (k:Nat):(w.getD k []).length<4611686018427387904:=by
 rcases Nat.lt_or_ge k w.length with q|q
 ·have:=h _ (am_ (d:=[]) q);omega
 ·rw[T8_,List.getElem?_eq_none q];simp
theorem s_as (w:List Str) (hw:smW w):∀n k e,sm e=true→sm (sAs n w k e).1=true∧∀b,(sAs n w k e).2=some b→k≤b∧(b≤k∨b≤w.length)
 |0,k,e,h=>⟨h,fun b q=>by simp[sAs]at q⟩
 |n+1,k,e,h=>by
  unfold sAs
  split
  ·split
   ·rename_i h2
    obtain⟨q1,q2⟩:=s_as w hw n (k+2) (.mk 4 0 (w.getD (k+1) []) [e]) (afr_ (z9_ hw _) h)
    have hk:=u5_ h2
    exact⟨q1,fun b hb=>by have:=q2 b hb;omega⟩
   ·exact⟨h,fun b q=>by simp at q⟩
  ·exact⟨h,fun b q=>by simp at q;omega⟩
theorem axs_:sm E0=true:=by decide
theorem vd_ (w:List Str) (hw:smW w):∀n:Nat,
  (∀k d,sm (ed_ n w k d).1=true∧∀b,(ed_ n w k d).2=some b→k+1≤b∧b≤w.length)∧
  (∀k t d,sm (sLp n w k t d).1=true∧∀b,(sLp n w k t d).2=some b→k+1≤b∧b≤w.length)∧
  (∀t d e o,sm e=true→sm (e3_ n w t d e o).1=true∧∀b,(e3_ n w t d e o).2=some b→∃k,o=some k∧k≤b∧(b≤k∨b≤w.length))∧
  (∀k d,sm (sL1 n w k d).1=true∧∀b,(sL1 n w k d).2=some b→k+1≤b∧b≤w.length)
 |0=>⟨fun k d=>⟨by simp only[ed_];decide,fun b q=>by simp[ed_]at q⟩,fun k t d=>⟨by simp only[sLp];decide,fun b q=>by simp[sLp]at q⟩,fun t d e o h=>⟨by simp only[e3_];exact h,fun b q=>by simp[e3_]at q⟩,fun k d=>⟨by simp only[sL1];decide,fun b q=>by simp[sL1]at q⟩⟩
 |n+1=>by
  obtain⟨a1,a2,a3,a4⟩:=vd_ w hw n
  refine⟨fun k d=>?_,fun k t d=>?_,fun t d e o h=>?_,fun k d=>?_⟩
  ·unfold ed_
   split
   ·rename_i h
    have hk:=aa1_ h
    obtain⟨q1,q2⟩:=s_as w hw n (k+1) (.mk 1 (av_ (w.getD k [])) [] []) (s7_ (by simp))
    exact⟨q1,fun b hb=>by have:=q2 b hb;omega⟩
   ·split
    ·rename_i h
     have hk:=ajn_ h
     obtain⟨q1,q2⟩:=s_as w hw n (k+1) (.mk 2 0 (w.getD k []) []) (s7_ (z9_ hw _))
     exact⟨q1,fun b hb=>by have:=q2 b hb;omega⟩
    ·split
     ·have q:=a4 (k+1) (d - 1)
      split
      ·exact⟨q.1,fun b hb=>by simp at hb⟩
      ·rename_i b0 hb0
       have q3:=q.2 b0 hb0
       split
       ·rename_i h41
        have hin:b0<w.length:=h2_ (by rw[h41];simp)
        obtain⟨r1,r2⟩:=s_as w hw n (b0+1) _ q.1
        exact⟨r1,fun b hb=>by have:=r2 b hb;omega⟩
       ·exact⟨q.1,fun b hb=>by simp at hb⟩
     ·exact⟨axs_,fun b hb=>by simp at hb⟩
  ·unfold sLp
   split
   ·exact a1 k d
   ·have q:=a2 k (t+1) d
    obtain⟨r1,r2⟩:=a3 t d _ (sLp n w k (t+1) d).2 q.1
    refine⟨r1,fun b hb=>?_⟩
    obtain⟨k0,e0,h0,h1⟩:=r2 b hb
    have:=q.2 k0 e0
    omega
  ·cases o with
   |none=>exact⟨by simp only[e3_];exact h,fun b q=>by simp[e3_]at q⟩
   |some k=>
    unfold e3_
    split
    ·rename_i ht
     have q:=a2 (k+1) (t+1) d
     obtain⟨r1,r2⟩:=a3 t d (.mk 3 0 (w.getD k []) [e,(sLp n w (k+1) (t+1) d).1]) (sLp n w (k+1) (t+1) d).2 (agx_ (z9_ hw _) h q.1)
     refine⟨r1,fun b hb=>?_⟩
     obtain⟨k0,e0,h0,h1⟩:=r2 b hb
     have:=q.2 k0 e0
     exact⟨k,rfl,by omega,by omega⟩
    ·exact⟨h,fun b hb=>by simp at hb;exact⟨k,rfl,by omega,by omega⟩⟩
  ·unfold sL1
   have q:=a2 k 2 d
   split
   ·exact⟨q.1,fun b hb=>by simp at hb⟩
   ·rename_i b0 hb0
    have q3:=q.2 b0 hb0
    split
    ·have r:=a2 (b0+1) 2 d
     refine⟨agx_ (by simp) q.1 r.1,fun b hb=>?_⟩
     have:=r.2 b hb;omega
    ·exact⟨q.1,fun b hb=>by simp at hb;omega⟩
def oN:Option Nat→Int
 |none=> -1
 |some b=>b
end
section
set_option maxRecDepth 100000
set_option maxHeartbeats 4000000
abbrev rsB (s:RS):Blk:=⟨236,3,[[.sl false (an_ s.left),.b s.bad,.i .i64 s.deep]]⟩
attribute [local go_sem] pv_ q5_ in
theorem qx_ (s:RS) (hl:s.left.length<4611686018427387904):ACall En 294 [.pt 0 3 0 0] [rsB s] [.s (bn_ s)] [rsB (bb_ s)]:=by
 obtain⟨left,bad,deep⟩:=s
 cases left with
 |nil=>
 refine aa_ [0] Tryz.func294 Tryz.ntmps294 fun C=>?_
 refine .seq (.rg [] ?_)
 refine .seq (.seq (.rg [] ?_))
 refine .cB (fun h9=>?_) (fun h9=>?_)
 ·refine .seq (.rg [] ?_)
  refine .seq (.rg [] ?_)
  refine .ret ⟨.inr rfl,?_⟩
  exact Out.mm (by simp only[Tryz.results294];rfl) (by simp only[ag_,rns,rn,go_sem,seval]<;>(rfl)) (by simp only[at_,go_sem,seval]<;>(simp[bb_,pv_]))
 ·exact absurd h9 (by simp)
 |cons x r=>
 refine aa_ [0] Tryz.func294 Tryz.ntmps294 fun C=>?_
 refine .seq (.rg [] ?_)
 refine .seq (.seq (.rg [] ?_))
 refine .cB (fun h9=>?_) (fun h9=>?_)
 ·simp at h9;omega
 ·refine .skip (.seq (.rg [] ?_))
  refine .seq (.rgo [] ?_ ?_)
  ·refine⟨⟨by omega,by omega⟩,.inr fun q hq=>?_⟩;rcases List.mem_cons.1 hq with rfl|hq;rfl;exact vm_ hq
  refine .seq (.rg [] ?_)
  refine .ret ⟨.inr rfl,?_⟩
  exact Out.mm (by simp only[Tryz.results294];rfl) (by simp only[ag_,rns,rn,go_sem,seval]<;>(rfl)) (by simp only[at_,go_sem,seval]<;>(simp[bb_,T1_,al_]))
attribute [local go_sem] asO pv_ q5_ wAs in
theorem at_a (s:RS) (hl:s.left.length<4611686018427387904):ACall En 312 [.pt 0 3 0 0,.sl false [[.s [97,115]]]] [rsB s] [.b (!s.bad&&(!s.left.isEmpty&&bn_ s==wAs))] [rsB s]:=by
 obtain⟨left,bad,deep⟩:=s
 cases left with
 |nil=>
 refine aa_ [0] Tryz.func312 Tryz.ntmps312 fun C=>?_
 refine .seq (.rg [] ?_)
 refine .seq (.rgS [25] [asO En { v:=.s [] },ab_ (np_ [wAs] [] (by decide))] ?_)
 refine .ret ⟨.inr rfl,?_⟩
 exact Out.mm (by simp only[Tryz.results312];rfl) (by simp only[ag_,rns,rn,go_sem,seval]<;>(simp)) (by simp only[at_,go_sem,seval]<;>(simp[pv_]))
 |cons x r=>
 refine aa_ [0] Tryz.func312 Tryz.ntmps312 fun C=>?_
 refine .seq (.rg [] ?_)
 refine .seq (.rg [ab_ (np_ [wAs] x (by decide))] ?_)
 refine .ret ⟨.inr rfl,?_⟩
 exact Out.mm (by simp only[Tryz.results312];rfl) (by simp only[ag_,rns,rn,go_sem,seval]<;>(simp[bn_,wAs])) (by simp only[at_,go_sem,seval]<;>(simp[q5_]))
end
section
set_option maxRecDepth 100000
set_option maxHeartbeats 8000000
def okS2 (s:RS):Prop:=smW s.left∧0≤s.deep∧s.deep+s.left.length≤1000000
theorem okS2.of {s s':RS} (h:okS2 s) (d:Dn s' s 0) (w:smW s'.left):okS2 s':=⟨w,by have:=d.1;have:=h.2.1;omega,by have:=d.2.1;have:=h.2.2;omega⟩
def aj7_ (n:Nat):Prop:=∀(t:Nat) (s:RS),t≤4→okS2 s→10 * s.left.length+10 - t≤n→ACall En 254 [.pt 0 3 0 0,.i .i64 t] [rsB s] [.ag (eC (b5_ n t s).1)] [rsB (b5_ n t s).2]
def afz_ (n:Nat):Prop:=∀(s:RS),okS2 s→10 * s.left.length+5≤n→ACall En 293 [.pt 0 3 0 0] [rsB s] [.ag (eC (fl_ n s).1)] [rsB (fl_ n s).2]
theorem la_ {s:RS} (h:okS2 s):okS2 (bb_ s):=h.of (Dn.nx s) (jg_ h.1).1
theorem afy_ {s:RS} (h:okS2 s) (n t:Nat):okS2 (b5_ n t s).2:=h.of ((apw_ n).1 t s) ((i_sm n).1 t s h.1).2
theorem l7_ {s:RS} (h:s.left≠[]):(bb_ s).left.length+1=s.left.length:=by
 unfold bb_
 cases hl:s.left with
 |nil=>exact absurd hl h
 |cons x r=>rfl
theorem ab0_ {s:RS} (h:s.left≠[]):(an_ s.left).getD 0 []=[.s (bn_ s)]:=by
 unfold bn_
 cases hl:s.left with
 |nil=>exact absurd hl h
 |cons x r=>rfl
theorem ann_ {j t:Nat} {e:E} {s:RS} (h:((!s.bad&&decide ((s.left.length:Int) > 0))&&ap_ (bn_ s)==(t:Int))=true):dk_ (j+1) t e s=dk_ j t (.mk 3 0 (bn_ s) [e,(b5_ j (t+1) (bb_ s)).1]) (b5_ j (t+1) (bb_ s)).2∧s.left≠[]:=by
 simp only[T5_,Bool.not_eq_true',T3_,beq_iff_eq]at h
 have hne:s.left≠[]:=by intro e;rw[e]at h;simp at h
 simp only[dk_]
 rw[if_pos ⟨h.1.1,hne,h.2⟩]
 exact⟨rfl,hne⟩
theorem apz_ {j t:Nat} {e:E} {s:RS} (h:((!s.bad&&decide ((s.left.length:Int) > 0))&&ap_ (bn_ s)==(t:Int))=false):dk_ (j+1) t e s=(e,s):=by
 simp only[dk_]
 rw[if_neg]
 rintro⟨a,b,c⟩
 rw[a,c]at h
 cases hl:s.left with
 |nil=>exact b hl
 |cons x r=>rw[hl]at h;simp at h
theorem ans_ {s:RS} (h:(!s.bad&&decide ((s.left.length:Int) > 0))=true):s.left≠[]:=by intro e;rw[e]at h;simp at h
theorem axv_ {s:RS} (h:(!s.bad&&decide ((s.left.length:Int) > 0))=true):(0:Int)<s.left.length:=by simp at h;omega
theorem ab1_ {s:RS} (h:s.left≠[]):((an_ s.left).getD 0 []).length=1:=by rw[ab0_ h];rfl
theorem ax7_ {s:RS} (h:s.left≠[]):((an_ s.left).getD 0 []).getD 0 .no = .s (bn_ s):=by rw[ab0_ h];rfl
def LI (n t:Nat) (s:RS) (q:Nat × E × RS):Prop:=okS2 q.2.2∧10 * q.2.2.left.length+1≤q.1∧q.1≤n∧dk_ n t (b5_ n (t+1) s).1 (b5_ n (t+1) s).2=dk_ q.1 t q.2.1 q.2.2
def LN (t:Nat) (q:Nat × E × RS):Nat × E × RS:=(q.1 - 1,.mk 3 0 (bn_ q.2.2) [q.2.1,(b5_ (q.1 - 1) (t+1) (bb_ q.2.2)).1],(b5_ (q.1 - 1) (t+1) (bb_ q.2.2)).2)
theorem aif_ {n t:Nat} {s:RS} {q:Nat × E × RS} (h8:((t:Int)==4)=false) (hI:LI n t s q) (h:((!q.2.2.bad&&decide ((q.2.2.left.length:Int) > 0))&&ap_ (bn_ q.2.2)==(t:Int))=false):b5_ (n+1) t s=q.2:=by
 obtain⟨j,e,s'⟩:=q
 obtain⟨h1,h2,h3,h4⟩:=hI
 dsimp only at h1 h2 h3 h4 h ⊢
 obtain⟨i,rfl⟩:∃i,j=i+1:=⟨j - 1,by omega⟩
 rw[tn_ (by simp at h8;omega),h4,apz_ h]
theorem acw_ {n t:Nat} {s:RS} {q:Nat × E × RS} (hI:LI n t s q) (h:((!q.2.2.bad&&decide ((q.2.2.left.length:Int) > 0))&&ap_ (bn_ q.2.2)==(t:Int))=true):LI n t s (LN t q)∧(LN t q).2.2.left.length<q.2.2.left.length:=by
 obtain⟨j,e,s'⟩:=q
 obtain⟨h1,h2,h3,h4⟩:=hI
 unfold LI LN
 dsimp only at h1 h2 h3 h4 h ⊢
 obtain⟨i,rfl⟩:∃i,j=i+1:=⟨j - 1,by omega⟩
 obtain⟨g1,g2⟩:=ann_ (j:=i) (e:=e) h
 have q1:=l7_ g2
 have q2:=(ai6_ i).1 (t+1) (bb_ s')
 simp only[Nat.add_sub_cancel]
 exact⟨⟨afy_ (la_ h1) _ _,by omega,by omega,by rw[h4,g1]⟩,by omega⟩
attribute [local go_sem] asO at_ bm_ al_ in
theorem afk_ (n:Nat) (ihL:∀j,j<n+1→aj7_ j) (ihH:∀j,j<n+1→afz_ j):aj7_ (n+1):=fun t s ht hs hn=>by
 obtain⟨s1,s2,s3⟩:=hs
 have hlen:s.left.length<4611686018427387904:=by omega
 have L1:t<4→okS2 (b5_ n (t+1) s).2∧(b5_ n (t+1) s).2.left.length≤s.left.length:=fun _=>⟨afy_ ⟨s1,s2,s3⟩ n (t+1),(ai6_ n).1 (t+1) s⟩
 have LJ:∀q:Nat × E × RS,okS2 q.2.2→10 * q.2.2.left.length+1≤q.1→q.1≤n→q.2.2.left≠[]→t<4→ACall En 254 [.pt 0 3 0 0,.i .i64 ((t+1:Nat):Int)] [rsB (bb_ q.2.2)] [.ag (eC (b5_ (q.1 - 1) (t+1) (bb_ q.2.2)).1)] [rsB (b5_ (q.1 - 1) (t+1) (bb_ q.2.2)).2]:=fun q h1 h2 h3 h4 h5=>by
  have:=l7_ h4
  exact ihL (q.1 - 1) (by omega) (t+1) (bb_ q.2.2) (by omega) (la_ h1) (by omega)
 have hw:IntKind.i64.wrap ((t:Int)+1)=((t+1:Nat):Int):=by rw[aj_ (by omega) (by omega)];rfl
 refine aa_ [0] Tryz.func254 Tryz.ntmps254 fun C=>?_
 refine .seq (.rg [] ?_ (h:=by simp only[go_sem,seval,hw];rfl))
 refine .seq (.seq (.rg [] ?_ (h:=by simp only[go_sem,seval,hw];rfl)))
 refine .cB (fun h8=>?_) (fun h8=>?_) (hc:=by simp only[go_sem,seval,hw];rfl) (hp:=by simp only[go_sem,seval,hw])
 ·refine .seq (.rg [bf_ [0] [] (ihH n (by omega) s ⟨s1,s2,s3⟩ (by simp at h8;omega))] ?_ (h:=by simp only[go_sem,seval,hw];rfl))
  refine .ret ⟨.inr rfl,?_⟩
  exact Out.mm (by simp only[Tryz.results254];rfl) (by simp only[ag_,rns,rn,go_sem,seval,hw]<;>((obtain rfl:t=4:=(by simp at h8;omega));simp[tv_])) (by simp only[at_,go_sem,seval,hw]<;>((obtain rfl:t=4:=(by simp at h8;omega));simp[tv_])) (h1:=by simp only[a8_,b4_,go_sem,seval,hw]) (h6:=by simp only[go_sem,seval,hw]) (h7:=by simp only[bm_,go_sem,seval,hw])
 ·refine .skip (.seq (.rg [bf_ [0] [] (ihL n (by omega) (t+1) s (by simp at h8;omega) ⟨s1,s2,s3⟩ (by simp at h8;omega))] ?_ (h:=by simp only[go_sem,seval,hw];rfl)))
  refine .seq (.block (.loopK (fun q:Nat × E × RS=>⟨[.pt 0 3 0 0,.i .i64 t,.no,.no,.pt 14 4 0 0,.pt 15 4 0 0,.no,.no,.no,.no,.no,.no,.no,.no,.no,.no,.no,.no,.no,.no,.no,.no,.no,.no,.no,.no,.no,.no,.no,.no,.no,.no,.no,.no,.no,.no,.no,.no,.no,.no,.no,.no,.no,.no,.no,.no,.no,.no,.no,.no],ak_ [(0,rsB q.2.2),(14,⟨56,4,[[.i .i64 0,.i .i64 0,.s [],.sl true []]]⟩),(15,⟨56,4,[eC q.2.1]⟩)],us [14,15]⟩) (fun q:Nat × E × RS=>LI n t s q) (fun q:Nat × E × RS=>q.2.2.left.length) ((n,(b5_ n (t+1) s).1,(b5_ n (t+1) s).2)) ?_ ?_ (fun q hI=>?_)))
  ·exact⟨(L1 (by simp at h8;omega)).1,by have:=(L1 (by simp at h8;omega)).2;dsimp only;simp at h8;omega,Nat.le_refl _,rfl⟩
  ·exact Can.wl (h:=by simp only[go_sem,seval,hw,ae_,leV,ac_,ad_,V.inn,us,T9_,Ta_]) (hi:=by simp only[go_sem,seval,hw,ae_,leV,ac_,ad_,V.inn,us,T9_,Ta_]) (hL:=by simp only[go_sem,seval,hw,ae_,leV,ac_,ad_,V.inn,us,T9_,Ta_])
  refine .seq (.seq (.rgSo [34] [asO En { v:=.s (bn_ q.2.2) },ab_ (li_ (bn_ q.2.2))] ?_ ?_ (h:=by simp only[go_sem,seval,hw];rfl)))
  ·exact⟨fun h=>⟨h,axv_ h,ab1_ (ans_ h)⟩,fun h=>⟨⟨h,by rw[ab1_ (ans_ h)];exact Nat.le_refl _⟩,by rw[ax7_ (ans_ h)]⟩⟩
  refine .cB (fun h38=>?_) (fun h38=>?_) (hc:=by simp only[go_sem,seval,hw];rfl) (hp:=by simp only[go_sem,seval,hw])
  ·refine .skip (.block (.seq (.rg [bf_ [0] [] (qx_ q.2.2 (by have:=hI.1.2;omega))] ?_ (h:=by simp only[go_sem,seval,hw];rfl))))
   refine .rgD [bf_ [0] [] (LJ q hI.1 hI.2.1 hI.2.2.1 (by simp at h38;intro e;simp[e]at h38) (by simp at h8;omega))] ?_ (h:=by simp only[go_sem,seval,hw];rfl)
   refine Exists.intro (LN t q) ⟨?_,?_,?_⟩
   ·exact(acw_ hI h38).1
   ·exact(acw_ hI h38).2
   refine Can.trans (Can.leAt 15 ([[.i .i64 3,.i .i64 0,.s (bn_ q.2.2),.sl false [eC q.2.1,eC (b5_ (q.1 - 1) (t+1) (bb_ q.2.2)).1]]]) (by simp only[go_sem,seval,hw]<;>rfl) (by simp only[go_sem,seval,hw,ler,les,leV]<;>(first|trivial|simp)) (by simp only[go_sem,seval,hw]<;>rfl)) ?_
   exact Can.wl (h:=by simp only[go_sem,seval,hw,ae_,leV,ac_,ad_,V.inn,us,T9_,Ta_]) (hi:=by simp only[go_sem,seval,hw,ae_,leV,ac_,ad_,V.inn,us,T9_,Ta_]) (hL:=by simp only[go_sem,seval,hw,ae_,leV,ac_,ad_,V.inn,us,T9_,Ta_]<;>(simp[LN,E.kind,E.n,E.s,E.kids,eR,gu_]))
  ·refine .exit (.seq (.rg [] ?_ (h:=by simp only[go_sem,seval,hw];rfl)))
   refine .ret ⟨.inr rfl,?_⟩
   exact Out.mm (by simp only[Tryz.results254];rfl) (by simp only[ag_,rns,rn,go_sem,seval,hw]<;>(rw[aif_ h8 hI h38])) (by simp only[at_,go_sem,seval,hw]<;>(rw[aif_ h8 hI h38];(try simp))) (h1:=by simp only[a8_,b4_,go_sem,seval,hw]) (h6:=by simp only[go_sem,seval,hw]) (h7:=by simp only[bm_,go_sem,seval,hw])
end
section
set_option maxRecDepth 100000
set_option maxHeartbeats 8000000
theorem amv_ {s:RS} {e:E} (h:(!s.bad&&(!s.left.isEmpty&&bn_ s==wAs))=true):asR s e=asR (bb_ (bb_ s)) (.mk 4 0 (bn_ (bb_ s)) [e])∧s.left≠[]:=by
 obtain⟨left,bad,deep⟩:=s
 cases left with
 |nil=>simp at h
 |cons x r=>
  simp only[T5_,Bool.not_eq_true',beq_iff_eq,bn_]at h
  obtain⟨rfl,_,rfl⟩:=h
  refine⟨?_,by simp⟩
  cases r with
  |nil=>simp[asR,asL,bb_,bn_]
  |cons t r=>simp[asR,asL,bb_,bn_]
theorem apl_ {s:RS} {e:E} (h:(!s.bad&&(!s.left.isEmpty&&bn_ s==wAs))=false):asR s e=(e,s):=by
 obtain⟨left,bad,deep⟩:=s
 cases bad with
 |true=>simp[asR]
 |false=>
  match left with
  |[]=>simp[asR,asL]
  |[x]=>simp[bn_]at h;simp[asR,asL,h]
  |x::t::r=>simp[bn_]at h;simp[asR,asL,h]
def HS (s:RS):RS:=⟨(bb_ s).left,(bb_ s).bad||decide ((bb_ s).deep+1 > 40),(bb_ s).deep+1⟩
def HP (m:Nat) (s:RS):E × RS:=if (HS s).bad then(E0,HS s)else b5_ m 1 (HS s)
def HQ (q:E × RS):E × RS:=(q.1,if q.2.bad then q.2 else { bb_ q.2 with bad:=!(bn_ q.2==[41]) })
theorem arb_ {m:Nat} {s:RS} (h:(!((bb_ s).bad||decide ((bb_ s).deep+1 > 40)))=true):HP m s=b5_ m 1 (HS s):=by
 unfold HP
 have:(HS s).bad=false:=by simpa[HS]using h
 rw[this];rfl
theorem anl_ {m:Nat} {s:RS} (h:(!((bb_ s).bad||decide ((bb_ s).deep+1 > 40)))=false):HP m s=(E0,HS s):=by
 unfold HP
 have:(HS s).bad=true:=by simp only[Bool.not_eq_false']at h;exact h
 rw[this];rfl
theorem ln_ {m:Nat} {s:RS}:ef_ (m+1) [40] (bb_ s)=HQ (HP m s):=by
 simp only[ef_,if_true]
 by_cases h:(bb_ s).bad=true∨40<(bb_ s).deep+1
 ·rw[if_pos h]
  have hx:((bb_ s).bad||decide ((bb_ s).deep+1 > 40))=true:=by simpa using h
  rw[anl_ (by rw[hx];rfl)]
  simp only[HQ,HS,hx,if_true]
 ·rw[if_neg h]
  have hx:((bb_ s).bad||decide ((bb_ s).deep+1 > 40))=false:=by simp at h ⊢;exact⟨h.1,by omega⟩
  have hb:(bb_ s).bad=false:=by simp at h;exact h.1
  have e:HS s={ bb_ s with deep:=(bb_ s).deep+1 }:=by unfold HS;rw[hx,←hb]
  rw[arb_ (by rw[hx];rfl),e];rfl
theorem km_ {n:Nat} {w:Str} {s:RS} (h:w≠[40]) (h1:bd_ w=false) (h2:gw_ w=false):ef_ (n+1) w s=(E0,{ s with bad:=true }):=by simp[ef_,h,h1,h2]
theorem j2_ {s:RS} (h:okS2 s) (b:Bool):okS2 { s with bad:=b }:=h
theorem zm_ {s:RS} (h:okS2 s) (hn:s.left≠[]):okS2 (HS s):=by
 have:=l7_ hn
 have h1:=la_ h
 exact⟨h1.1,by have:=h1.2.1;simp only[HS];omega,by have:=uj_ s;have:=h.2.2;simp only[HS];omega⟩
theorem aij_ {s:RS} (h:okS2 s) (hn:s.left≠[]) (m:Nat):okS2 (HP m s).2:=by
 unfold HP;split
 ·exact zm_ h hn
 ·exact afy_ (zm_ h hn) m 1
theorem oi_ {q:E × RS} (h:okS2 q.2):okS2 (HQ q).2:=by
 unfold HQ;dsimp only;split
 ·exact h
 ·exact j2_ (la_ h) _
theorem zs_ {s:RS} (h:bn_ s≠[]):s.left≠[]:=by unfold bn_ at h;intro e;rw[e]at h;exact h rfl
theorem c1_ {n:Nat} {s:RS} {q:E × RS} (h:ef_ n (bn_ s) (bb_ s)=q):fl_ (n+1) s=asR q.2 q.1:=by simp only[fl_,h]
theorem ai1_ (s:Str):dj_ (kt_ s)=true:=by unfold kt_;split<;>rfl
attribute [local go_sem] at_ bm_ in
theorem alw_ (m:Nat) (ihL:∀j,j<m+2→aj7_ j):afz_ (m+2):=fun s hs hn=>by
 have h1:=la_ hs
 have hd:=uj_ s
 have hl1:=iq_ s
 have hb:=hs.2.2
 have hb0:=hs.2.1
 have hH:=(jg_ hs.1).2
 have hw:IntKind.i64.wrap ((bb_ s).deep+1)=(bb_ s).deep+1:=aj_ (by omega) (by omega)
 have hnv:bd_ (bn_ s)=true→kt_ (bn_ s) = .i .i64 (av_ (bn_ s)):=fun h=>by simp[kt_,h]
 have LB:s.left≠[]→ACall En 254 [.pt 0 3 0 0,.i .i64 ((1:Nat):Int)] [rsB (HS s)] [.ag (eC (b5_ m 1 (HS s)).1)] [rsB (b5_ m 1 (HS s)).2]:=fun h=>ihL m (by omega) 1 (HS s) (by omega) (zm_ hs h) (by have:=l7_ h;show 10 * (bb_ s).left.length+10 - 1≤m;omega)
 refine aa_ [0] Tryz.func293 Tryz.ntmps293 fun C=>?_
 refine .seq (.rg [] ?_ (h:=by simp only[go_sem,seval,hw];rfl))
 refine .seq (.rg [] ?_ (h:=by simp only[go_sem,seval,hw];rfl))
 refine .seq (.rg [bf_ [0] [] (qx_ s (by omega))] ?_ (h:=by simp only[go_sem,seval,hw];rfl))
 refine .seq (.rgo [ab_ (n9_ (bn_ s) hH)] ?_ ?_ (h:=by simp only[go_sem,seval,hw];rfl))
 ·exact⟨kj_ _,ai1_ _⟩
 refine .seqJ (fun q2:E × RS=>⟨[.pt 0 3 0 0,.no,.pt 12 4 0 0,.pt 13 4 0 0,.no,.no,.no,.no,.no,.no,.no,.no,.no,.no,.no,.no,.no,.no,.no,.no,.no,.no,.no,.no,.no,.no,.no,.no,.no,.no,.no,.no,.no,.no,.no,.no,.no,.no,.no,.no,.no,.no,.no,.no,.no,.no,.no,.no,.no,.no,.no,.no,.no,.no,.no,.no,.no,.no,.no,.no,.no,.no,.no,.no,.no,.no,.no,.no,.no,.no,.no,.no,.no,.no,.no,.no,.no,.no,.no,.no],ak_ [(0,rsB q2.2),(12,⟨56,4,[[.i .i64 0,.i .i64 0,.s [],.sl true []]]⟩),(13,⟨56,4,[eC q2.1]⟩)],us [12,13]⟩) (fun q2:E × RS=>fl_ (m+2) s=asR q2.2 q2.1∧okS2 q2.2) ?_ (fun q2 hJ=>?_)
 ·refine .block (.seq (.rg [] ?_ (h:=by simp only[go_sem,seval,hw];rfl)))
  refine .cB (fun h17=>?_) (fun h17=>?_) (hc:=by simp only[go_sem,seval,hw];rfl) (hp:=by simp only[go_sem,seval,hw])
  ·refine .seq (.rg [] ?_ (h:=by simp only[go_sem,seval,hw];rfl))
   refine .seq (.rg [] ?_ (h:=by simp only[go_sem,seval,hw];rfl))
   refine .seqJ (fun q:E × RS=>⟨[.pt 0 3 0 0,.no,.pt 12 4 0 0,.pt 13 4 0 0,.no,.no,.no,.no,.no,.no,.no,.no,.no,.no,.no,.no,.no,.no,.no,.no,.no,.no,.no,.no,.no,.no,.no,.no,.no,.no,.no,.no,.no,.no,.no,.no,.no,.no,.no,.no,.no,.no,.no,.no,.no,.no,.no,.no,.no,.no,.no,.no,.no,.no,.no,.no,.no,.no,.no,.no,.no,.no,.no,.no,.no,.no,.no,.no,.no,.no,.no,.no,.no,.no,.no,.no,.no,.no,.no,.no],ak_ [(0,rsB q.2),(12,⟨56,4,[[.i .i64 0,.i .i64 0,.s [],.sl true []]]⟩),(13,⟨56,4,[eC q.1]⟩)],us [12,13]⟩) (fun q:E × RS=>q=HP m s∧okS2 q.2) ?_ (fun q hJ=>?_)
   ·refine .seq (.rg [] ?_ (h:=by simp only[go_sem,seval,hw];rfl))
    refine .cB (fun h45=>?_) (fun h45=>?_) (hc:=by simp only[go_sem,seval,hw];rfl) (hp:=by simp only[go_sem,seval,hw])
    ·refine .rg [bf_ [0] [] (LB (zs_ (by simp at h17;rw[h17];simp)))] ?_ (h:=by simp only[go_sem,seval,hw];rfl)
     refine Exists.intro (HP m s) ⟨?_,?_⟩
     ·exact⟨rfl,aij_ hs (zs_ (by simp at h17;rw[h17];simp)) m⟩
     exact Can.wl (h:=by simp only[go_sem,seval,hw,ae_,leV,ac_,ad_,V.inn,us,T9_,Ta_]) (hi:=by simp only[go_sem,seval,hw,ae_,leV,ac_,ad_,V.inn,us,T9_,Ta_]) (hL:=by simp only[go_sem,seval,hw,ae_,leV,ac_,ad_,V.inn,us,T9_,Ta_]<;>(first|(rw[arb_ h45];simp;done)|(rw[anl_ h45];simp[HS,E0,E.kind,E.n,E.s,E.kids,eR];done)))
    ·refine .skip ?_
     refine Exists.intro (HP m s) ⟨?_,?_⟩
     ·exact⟨rfl,aij_ hs (zs_ (by simp at h17;rw[h17];simp)) m⟩
     refine Can.trans (Can.leAt 13 ([[.i .i64 0,.i .i64 0,.s [],.sl false []]]) (by simp only[go_sem,seval,hw]<;>rfl) (by simp only[go_sem,seval,hw,ler,les,leV]<;>(first|trivial|simp)) (by simp only[go_sem,seval,hw]<;>rfl)) ?_
     exact Can.wl (h:=by simp only[go_sem,seval,hw,ae_,leV,ac_,ad_,V.inn,us,T9_,Ta_]) (hi:=by simp only[go_sem,seval,hw,ae_,leV,ac_,ad_,V.inn,us,T9_,Ta_]) (hL:=by simp only[go_sem,seval,hw,ae_,leV,ac_,ad_,V.inn,us,T9_,Ta_]<;>(first|(rw[arb_ h45];simp;done)|(rw[anl_ h45];simp[HS,E0,E.kind,E.n,E.s,E.kids,eR];done)))
   cases hb:q.2.bad
   ·refine .rgo [bf_ [0] [] (qx_ q.2 (by have:=(hJ.2:okS2 q.2).2.2;have:=(hJ.2:okS2 q.2).2.1;omega))] ?_ ?_ (h:=by simp only[go_sem,seval,hw,hb];rfl)
    ·(first|trivial|(simp;done)|(simp[hb];done))
    refine Exists.intro (HQ q) ⟨?_,?_⟩
    ·first|exact⟨c1_ (by rw[show bn_ s=[40]from by simpa using h17,ln_,hJ.1]),oi_ hJ.2⟩|exact⟨c1_ (is_ (by simpa using h17) (by simpa using h60)),h1⟩|exact⟨c1_ (he_ (by simpa using h17) (by simpa using h60) (by simpa using h64)),h1⟩|exact⟨c1_ (km_ (by simpa using h17) (by simpa using h60) (by simpa using h64)),j2_ h1 true⟩
    exact Can.wl (h:=by simp only[go_sem,seval,hw,ae_,leV,ac_,ad_,V.inn,us,T9_,Ta_]) (hi:=by simp only[go_sem,seval,hw,ae_,leV,ac_,ad_,V.inn,us,T9_,Ta_]) (hL:=by simp only[go_sem,seval,hw,ae_,leV,ac_,ad_,V.inn,us,T9_,Ta_]<;>(first|(simp[HQ,hb];done)|(simp[E.kind,E.n,E.s,E.kids,eR];done)|(simp[E0,E.kind,E.n,E.s,E.kids,eR];done)))
   ·refine .rgo [bf_ [0] [] (qx_ q.2 (by have:=(hJ.2:okS2 q.2).2.2;have:=(hJ.2:okS2 q.2).2.1;omega))] ?_ ?_ (h:=by simp only[go_sem,seval,hw,hb];rfl)
    ·(first|trivial|(simp;done)|(simp[hb];done))
    refine Exists.intro (HQ q) ⟨?_,?_⟩
    ·first|exact⟨c1_ (by rw[show bn_ s=[40]from by simpa using h17,ln_,hJ.1]),oi_ hJ.2⟩|exact⟨c1_ (is_ (by simpa using h17) (by simpa using h60)),h1⟩|exact⟨c1_ (he_ (by simpa using h17) (by simpa using h60) (by simpa using h64)),h1⟩|exact⟨c1_ (km_ (by simpa using h17) (by simpa using h60) (by simpa using h64)),j2_ h1 true⟩
    exact Can.wl (h:=by simp only[go_sem,seval,hw,ae_,leV,ac_,ad_,V.inn,us,T9_,Ta_]) (hi:=by simp only[go_sem,seval,hw,ae_,leV,ac_,ad_,V.inn,us,T9_,Ta_]) (hL:=by simp only[go_sem,seval,hw,ae_,leV,ac_,ad_,V.inn,us,T9_,Ta_]<;>(first|(simp[HQ,hb];done)|(simp[E.kind,E.n,E.s,E.kids,eR];done)|(simp[E0,E.kind,E.n,E.s,E.kids,eR];done)))
  ·refine .seq (.rg [] ?_ (h:=by simp only[go_sem,seval,hw];rfl))
   refine .cB (fun h60=>?_) (fun h60=>?_) (hc:=by simp only[go_sem,seval,hw];rfl) (hp:=by simp only[go_sem,seval,hw])
   ·refine .rg [] ?_ (h:=by simp only[go_sem,seval,hw,hnv (by simpa using h60)];rfl)
    refine Exists.intro ((.mk 1 (av_ (bn_ s)) [] [],bb_ s)) ⟨?_,?_⟩
    ·first|exact⟨c1_ (by rw[show bn_ s=[40]from by simpa using h17,ln_,hJ.1]),oi_ hJ.2⟩|exact⟨c1_ (is_ (by simpa using h17) (by simpa using h60)),h1⟩|exact⟨c1_ (he_ (by simpa using h17) (by simpa using h60) (by simpa using h64)),h1⟩|exact⟨c1_ (km_ (by simpa using h17) (by simpa using h60) (by simpa using h64)),j2_ h1 true⟩
    refine Can.trans (Can.leAt 13 ([[.i .i64 1,.i .i64 (av_ (bn_ s)),.s [],.sl false []]]) (by simp only[go_sem,seval,hw]<;>rfl) (by simp only[go_sem,seval,hw,ler,les,leV]<;>(first|trivial|simp)) (by simp only[go_sem,seval,hw]<;>rfl)) ?_
    exact Can.wl (h:=by simp only[go_sem,seval,hw,ae_,leV,ac_,ad_,V.inn,us,T9_,Ta_]) (hi:=by simp only[go_sem,seval,hw,ae_,leV,ac_,ad_,V.inn,us,T9_,Ta_]) (hL:=by simp only[go_sem,seval,hw,ae_,leV,ac_,ad_,V.inn,us,T9_,Ta_]<;>(first|(simp[HQ,hb];done)|(simp[E.kind,E.n,E.s,E.kids,eR];done)|(simp[E0,E.kind,E.n,E.s,E.kids,eR];done)))
   ·refine .seq (.rg [ab_ (pm_ (bn_ s) (by omega))] ?_ (h:=by simp only[go_sem,seval,hw];rfl))
    refine .cB (fun h64=>?_) (fun h64=>?_) (hc:=by simp only[go_sem,seval,hw];rfl) (hp:=by simp only[go_sem,seval,hw])
    ·refine .rg [] ?_ (h:=by simp only[go_sem,seval,hw];rfl)
     refine Exists.intro ((.mk 2 0 (bn_ s) [],bb_ s)) ⟨?_,?_⟩
     ·first|exact⟨c1_ (by rw[show bn_ s=[40]from by simpa using h17,ln_,hJ.1]),oi_ hJ.2⟩|exact⟨c1_ (is_ (by simpa using h17) (by simpa using h60)),h1⟩|exact⟨c1_ (he_ (by simpa using h17) (by simpa using h60) (by simpa using h64)),h1⟩|exact⟨c1_ (km_ (by simpa using h17) (by simpa using h60) (by simpa using h64)),j2_ h1 true⟩
     refine Can.trans (Can.leAt 13 ([[.i .i64 2,.i .i64 0,.s (bn_ s),.sl false []]]) (by simp only[go_sem,seval,hw]<;>rfl) (by simp only[go_sem,seval,hw,ler,les,leV]<;>(first|trivial|simp)) (by simp only[go_sem,seval,hw]<;>rfl)) ?_
     exact Can.wl (h:=by simp only[go_sem,seval,hw,ae_,leV,ac_,ad_,V.inn,us,T9_,Ta_]) (hi:=by simp only[go_sem,seval,hw,ae_,leV,ac_,ad_,V.inn,us,T9_,Ta_]) (hL:=by simp only[go_sem,seval,hw,ae_,leV,ac_,ad_,V.inn,us,T9_,Ta_]<;>(first|(simp[HQ,hb];done)|(simp[E.kind,E.n,E.s,E.kids,eR];done)|(simp[E0,E.kind,E.n,E.s,E.kids,eR];done)))
    ·refine .rg [] ?_ (h:=by simp only[go_sem,seval,hw];rfl)
     refine Exists.intro ((E0,{ bb_ s with bad:=true })) ⟨?_,?_⟩
     ·first|exact⟨c1_ (by rw[show bn_ s=[40]from by simpa using h17,ln_,hJ.1]),oi_ hJ.2⟩|exact⟨c1_ (is_ (by simpa using h17) (by simpa using h60)),h1⟩|exact⟨c1_ (he_ (by simpa using h17) (by simpa using h60) (by simpa using h64)),h1⟩|exact⟨c1_ (km_ (by simpa using h17) (by simpa using h60) (by simpa using h64)),j2_ h1 true⟩
     refine Can.trans (Can.leAt 13 ([[.i .i64 0,.i .i64 0,.s [],.sl false []]]) (by simp only[go_sem,seval,hw]<;>rfl) (by simp only[go_sem,seval,hw,ler,les,leV]<;>(first|trivial|simp)) (by simp only[go_sem,seval,hw]<;>rfl)) ?_
     exact Can.wl (h:=by simp only[go_sem,seval,hw,ae_,leV,ac_,ad_,V.inn,us,T9_,Ta_]) (hi:=by simp only[go_sem,seval,hw,ae_,leV,ac_,ad_,V.inn,us,T9_,Ta_]) (hL:=by simp only[go_sem,seval,hw,ae_,leV,ac_,ad_,V.inn,us,T9_,Ta_]<;>(first|(simp[HQ,hb];done)|(simp[E.kind,E.n,E.s,E.kids,eR];done)|(simp[E0,E.kind,E.n,E.s,E.kids,eR];done)))
 refine .seq (.block (.loopK (fun p:E × RS=>⟨[.pt 0 3 0 0,.no,.pt 12 4 0 0,.pt 13 4 0 0,.no,.no,.no,.no,.no,.no,.no,.no,.no,.no,.no,.no,.no,.no,.no,.no,.no,.no,.no,.no,.no,.no,.no,.no,.no,.no,.no,.no,.no,.no,.no,.no,.no,.no,.no,.no,.no,.no,.no,.no,.no,.no,.no,.no,.no,.no,.no,.no,.no,.no,.no,.no,.no,.no,.no,.no,.no,.no,.no,.no,.no,.no,.no,.no,.no,.no,.no,.no,.no,.no,.no,.no,.no,.no,.no,.no],ak_ [(0,rsB p.2),(12,⟨56,4,[[.i .i64 0,.i .i64 0,.s [],.sl true []]]⟩),(13,⟨56,4,[eC p.1]⟩)],us [12,13]⟩) (fun p:E × RS=>asR q2.2 q2.1=asR p.2 p.1∧okS2 p.2) (fun p:E × RS=>p.2.left.length) (q2) ?_ ?_ (fun p hI=>?_)))
 ·exact⟨rfl,hJ.2⟩
 ·exact Can.wl (h:=by simp only[go_sem,seval,hw,ae_,leV,ac_,ad_,V.inn,us,T9_,Ta_]) (hi:=by simp only[go_sem,seval,hw,ae_,leV,ac_,ad_,V.inn,us,T9_,Ta_]) (hL:=by simp only[go_sem,seval,hw,ae_,leV,ac_,ad_,V.inn,us,T9_,Ta_])
 refine .seq (.seq (.rg [bf_ [0] [] (at_a p.2 (by have:=hI.2.2.2;have:=hI.2.2.1;omega))] ?_ (h:=by simp only[go_sem,seval,hw];rfl)))
 refine .cB (fun h71=>?_) (fun h71=>?_) (hc:=by simp only[go_sem,seval,hw];rfl) (hp:=by simp only[go_sem,seval,hw])
 ·refine .skip (.block (.seq (.rg [bf_ [0] [] (qx_ p.2 (by have:=hI.2.2.2;have:=hI.2.2.1;omega))] ?_ (h:=by simp only[go_sem,seval,hw];rfl))))
  refine .rgD [bf_ [0] [] (qx_ (bb_ p.2) (by have:=hI.2.2.2;have:=hI.2.2.1;have:=iq_ p.2;omega))] ?_ (h:=by simp only[go_sem,seval,hw];rfl)
  refine Exists.intro ((.mk 4 0 (bn_ (bb_ p.2)) [p.1],bb_ (bb_ p.2))) ⟨?_,?_,?_⟩
  ·exact⟨by rw[hI.1,(amv_ h71).1],la_ (la_ hI.2)⟩
  ·have q1:=l7_ (amv_ (e:=p.1) h71).2;have q2:=iq_ (bb_ p.2);dsimp only;omega
  refine Can.trans (Can.leAt 13 ([[.i .i64 4,.i .i64 0,.s (bn_ (bb_ p.2)),.sl false [eC p.1]]]) (by simp only[go_sem,seval,hw]<;>rfl) (by simp only[go_sem,seval,hw,ler,les,leV]<;>(first|trivial|simp)) (by simp only[go_sem,seval,hw]<;>rfl)) ?_
  exact Can.wl (h:=by simp only[go_sem,seval,hw,ae_,leV,ac_,ad_,V.inn,us,T9_,Ta_]) (hi:=by simp only[go_sem,seval,hw,ae_,leV,ac_,ad_,V.inn,us,T9_,Ta_]) (hL:=by simp only[go_sem,seval,hw,ae_,leV,ac_,ad_,V.inn,us,T9_,Ta_]<;>(simp[E.kind,E.n,E.s,E.kids,eR,gu_]))
 ·refine .exit (.seq (.rg [] ?_ (h:=by simp only[go_sem,seval,hw];rfl)))
  refine .ret ⟨.inr rfl,?_⟩
  exact Out.mm (by simp only[Tryz.results293];rfl) (by simp only[ag_,rns,rn,go_sem,seval,hw]<;>(rw[hJ.1,hI.1,apl_ h71])) (by simp only[at_,go_sem,seval,hw]<;>(rw[hJ.1,hI.1,apl_ h71];(try simp))) (h1:=by simp only[a8_,b4_,go_sem,seval,hw]) (h6:=by simp only[go_sem,seval,hw]) (h7:=by simp only[bm_,go_sem,seval,hw])
theorem anu_ (n:Nat):aj7_ n∧afz_ n:=by
 induction n using Nat.strongRecOn with
 |ind n ih=>
 refine⟨?_,?_⟩
 ·cases n with
  |zero=>intro t s ht hs hn;omega
  |succ n=>exact afk_ n (fun j hj=>(ih j hj).1) (fun j hj=>(ih j hj).2)
 ·match n with
  |0=>intro s hs hn;omega
  |1=>intro s hs hn;omega
  |m+2=>exact alw_ m (fun j hj=>(ih j hj).1)
end
end Go.Proofs.YthjccajoadjicaaGreatDoor
