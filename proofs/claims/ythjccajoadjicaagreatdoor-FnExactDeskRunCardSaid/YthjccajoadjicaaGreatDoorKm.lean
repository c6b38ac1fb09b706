/- The reference's reader of what is reckoned. Conditions: none. -/
import Derived.Test.YthjccajoadjicaaGreatDoorKl
import Derived.Test.YthjccajoadjicaaGreatDoorKk
import Derived.Test.YthjccajoadjicaaGreatDoorKf
import Derived.Test.YthjccajoadjicaaGreatDoorKg
import Derived.Test.YthjccajoadjicaaGreatDoorKh
import Derived.Test.YthjccajoadjicaaGreatDoorKe
set_option linter.unusedVariables false
set_option linter.unusedSimpArgs false
namespace Go.Proofs.YthjccajoadjicaaGreatDoor
section
set_option maxRecDepth 100000
set_option maxHeartbeats 8000000
def atI (w:List Str) (at':Int):Str:=if 0≤at' then w.getD at'.toNat []else []
theorem jv_ (w:List Str) (k:Nat):atI w (k:Int)=w.getD k []:=by unfold atI;rw[if_pos (by omega),Int.toNat_natCast]
attribute [local go_sem] al_ aq_ in
theorem ky_ (w:List Str) (i:Int):ACall En 245 [.sl false (an_ w),.i .i64 i] [] [.s (atI w i)] []:=by
 refine aa_ [] Tryz.func245 Tryz.ntmps245 fun C=>?_
 refine .seq (.rgo [] ?_ ?_)
 ·(first|trivial|(simp;done)|(rw[T5_]at h12;exact⟨of_decide_eq_true h12.1,of_decide_eq_true h12.2⟩))
 refine .seq (.seq (.rgo [] ?_ ?_))
 ·(first|trivial|(simp;done)|(rw[T5_]at h12;exact⟨of_decide_eq_true h12.1,of_decide_eq_true h12.2⟩))
 refine .cB (fun h12=>?_) (fun h12=>?_)
 ·refine .seq (.rgo [] ?_ ?_ (h:=by simp only[go_sem,seval,aw_ (show i.toNat<w.length by simp only[T5_,T3_]at h12;omega)];rfl))
  ·(first|trivial|(simp;done)|(rw[T5_]at h12;exact⟨of_decide_eq_true h12.1,of_decide_eq_true h12.2⟩))
  refine .ret ⟨.inr rfl,?_⟩
  exact Out.pl (by simp only[Tryz.results245];rfl) (by simp only[ag_,go_sem,seval]<;>(rw[T5_]at h12;unfold atI;rw[if_pos (of_decide_eq_true h12.1)]))
 ·refine .skip (.seq (.rgo [] ?_ ?_))
  ·(first|trivial|(simp;done)|(rw[T5_]at h12;exact⟨of_decide_eq_true h12.1,of_decide_eq_true h12.2⟩))
  refine .ret ⟨.inr rfl,?_⟩
  exact Out.pl (by simp only[Tryz.results245];rfl) (by simp only[ag_,go_sem,seval]<;>(unfold atI;split;(rename_i h0;rw[decide_eq_true h0,Bool.true_and]at h12;have h1:=of_decide_eq_false h12;rw[T8_,List.getElem?_eq_none (by omega)];rfl);rfl))
def afi_ (w:List Str) (n:Nat):Prop:=∀(k:Nat) (d:Int),0≤d→d≤5→k≤w.length+1→10 * (w.length - k)+5≤n→ACall En 309 [.sl false (an_ w),.i .i64 k,.i .i64 d] [] [.ag (eC (ed_ n w k d).1),.i .i64 (oN (ed_ n w k d).2)] []
def LpOk (w:List Str) (n:Nat):Prop:=∀(k t:Nat) (d:Int),0≤d→d≤5→2≤t→t≤4→k≤w.length+1→10 * (w.length - k)+10 - t≤n→ACall En 284 [.sl false (an_ w),.i .i64 k,.i .i64 t,.i .i64 d] [] [.ag (eC (sLp n w k t d).1),.i .i64 (oN (sLp n w k t d).2)] []
def L1Ok (w:List Str) (n:Nat):Prop:=∀(k:Nat) (d:Int),0≤d→d≤5→k≤w.length+1→10 * (w.length - k)+9≤n→ACall En 238 [.sl false (an_ w),.i .i64 k,.i .i64 d] [] [.ag (eC (sL1 n w k d).1),.i .i64 (oN (sL1 n w k d).2)] []
theorem id_ (j:Nat) (h:j≤4000000):IntKind.i64.wrap (j:Int)=(j:Int):=aj_ (by omega) (by omega)
theorem kc_ {w:List Str} {o:Option Nat} (h:(decide (oN o<0)||!(atI w (oN o)==[41]))=false):∃b,o=some b∧w.getD b []=[41]:=by
 cases o with
 |none=>simp[oN]at h
 |some b=>
  refine⟨b,rfl,?_⟩
  simp only[oN,jv_,Bool.or_eq_false_iff,Bool.not_eq_false',beq_iff_eq]at h
  exact h.2
theorem auc_ {w:List Str} {o:Option Nat} (h:(decide (oN o<0)||!(atI w (oN o)==[41]))=true):¬ ∃b,o=some b∧w.getD b []=[41]:=by
 rintro⟨b,rfl,e⟩
 have h':(decide ((b:Int)<0)||!(atI w (b:Int)==[41]))=true:=h
 rw[jv_,e,decide_eq_false (by omega)]at h'
 exact absurd h' (by decide)
theorem axe_ {w:List Str} {j k:Nat} {e:E} (h:w.getD k []=wAs) (h2:fe_ (w.getD (k+1) [])=true):sAs (j+1) w k e=sAs j w (k+2) (.mk 4 0 (w.getD (k+1) []) [e]):=by rw[sAs,if_pos h,if_pos h2]
theorem atg_ {w:List Str} {j k:Nat} {e:E} (h:w.getD k []=wAs) (h2:fe_ (w.getD (k+1) [])=false):sAs (j+1) w k e=(e,none):=by rw[sAs,if_pos h,if_neg (by rw[h2];decide)]
theorem awv_ {w:List Str} {j k:Nat} {e:E} (h:w.getD k []≠wAs):sAs (j+1) w k e=(e,some k):=by rw[sAs,if_neg h]
theorem akt_ {n:Nat} {w:List Str} {k:Nat} {d:Int} (h:bd_ (w.getD k [])=false) (h2:gw_ (w.getD k [])=false) (h3:¬(w.getD k []=[40]∧0<d)):ed_ (n+1) w k d=(E0,none):=by simp only[ed_,h,h2,Bool.false_eq_true,if_false,if_neg h3]
theorem ali_ {n:Nat} {w:List Str} {k:Nat} {d:Int} (h:bd_ (w.getD k [])=false) (h2:gw_ (w.getD k [])=false) (h3:w.getD k []=[40]∧0<d) (h4:¬ ∃b,(sL1 n w (k+1) (d - 1)).2=some b∧w.getD b []=[41]):ed_ (n+1) w k d=((sL1 n w (k+1) (d - 1)).1,none):=by
 simp only[ed_,h,h2,Bool.false_eq_true,if_false,if_pos h3]
 cases ho:(sL1 n w (k+1) (d - 1)).2 with
 |none=>rfl
 |some b=>dsimp only;rw[if_neg (fun e=>h4 ⟨b,ho,e⟩)]
attribute [local go_sem] al_ aq_ gu_ jv_ in
theorem akd_ (w:List Str) (hw:smW w) (hl:w.length≤1000000) (n:Nat) (ih:∀j,j<n+1→L1Ok w j):afi_ w (n+1):=fun k d d0 d5 hk hn=>by
 have hW:=fun i=>z9_ hw i
 have hS:∀i,(w.getD i []).length≤281474976710656:=fun i=>by
  rcases Nat.lt_or_ge i w.length with q|q
  ·exact hw _ (am_ (d:=[]) q)
  ·rw[T8_,List.getElem?_eq_none q];simp
 have hs:=hS k
 have e0:=jv_ w k
 have L:=fun(h:k<w.length∧0<d)=>ih n (by omega) (k+1) (d - 1) (by omega) (by omega) (by omega) (by omega)
 have hB:=((vd_ w hw n).2.2.2 (k+1) (d - 1)).2
 refine aa_ [] Tryz.func309 Tryz.ntmps309 fun C=>?_
 refine .seq (.rg [] ?_ (h:=by simp only[go_sem,seval,e0];rfl))
 refine .seq (.rg [ab_ (ky_ w k)] ?_ (h:=by simp only[go_sem,seval,e0];rfl))
 refine .seq (.rg [] ?_ (h:=by simp only[go_sem,seval,e0];rfl))
 refine .seq (.rg [] ?_ (h:=by simp only[go_sem,seval,e0,id_ (k+1) (by omega),show((k:Int)+1)=((k+1:Nat):Int)from rfl];rfl))
 refine .seqJ (fun p:Nat × E=>⟨[.sl false (an_ w),.no,.no,.no,.no,.no,.pt 16 4 0 0,.no,.no,.pt 19 4 0 0,.i .i64 p.1,.no,.no,.no,.no,.no,.no,.no,.no,.no,.no,.no,.no,.no,.no,.no,.no,.no,.no,.no,.no,.no,.no,.no,.no,.no,.no,.no,.no,.no,.no,.no,.no,.no,.no,.no,.no,.no,.no,.no,.no,.no,.no,.no,.no,.no,.no,.no,.no,.no,.no,.no,.no,.no,.no,.no,.no,.no,.no,.no,.no,.no,.no,.no,.no,.no,.no,.no,.no,.no,.no,.no,.no,.no,.no,.no,.no],ak_ [(16,⟨56,4,[[.i .i64 0,.i .i64 0,.s [],.sl true []]]⟩),(19,⟨56,4,[eC p.2]⟩)],us [16,19]⟩) (fun p:Nat × E=>ed_ (n+1) w k d=sAs n w p.1 p.2∧p.1≤w.length∧k+1≤p.1) ?_ (fun p hJ=>?_)
 ·refine .block (.seq (.rg [ab_ (ah9_ (w.getD k []) hs)] ?_ (h:=by simp only[go_sem,seval,e0];rfl)))
  refine .cB (fun h22=>?_) (fun h22=>?_) (hc:=by simp only[go_sem,seval,e0];rfl) (hp:=by simp only[go_sem,seval,e0])
  ·refine .seq (.rg [ab_ (v5_ (w.getD k []) hs)] ?_ (h:=by simp only[go_sem,seval,e0];rfl))
   refine .rg [] ?_ (h:=by simp only[go_sem,seval,e0,(pc_ (w.getD k [])).2 (by simpa using h22)];rfl)
   refine Exists.intro ((k+1,.mk 1 (av_ (w.getD k [])) [] [])) ⟨?_,?_⟩
   ·first|exact⟨mo_ h22,aa1_ h22,Nat.le_refl _⟩|exact⟨kx_ h22 h32,ajn_ h32,Nat.le_refl _⟩|(obtain⟨b,hb1,hb2⟩:=kc_ h59;rw[T5_]at h37;have hbl:=hB b hb1;have hin:b<w.length:=h2_ (by rw[hb2];simp);exact⟨by dsimp only;rw[hb1];show ed_ (n+1) w k d=sAs n w (b+1) (sL1 n w (k+1) (d - 1)).1;exact m7_ (beq_iff_eq.1 h37.1) (of_decide_eq_true h37.2) (show sL1 n w (k+1) (d - 1)=((sL1 n w (k+1) (d - 1)).1,some b) by rw[←hb1]) hb2,by dsimp only;rw[hb1];exact hin,by dsimp only;rw[hb1];show k+1≤b+1;omega⟩)
   refine Can.trans (Can.leAt 19 ([[.i .i64 1,.i .i64 (av_ (w.getD k [])),.s [],.sl false []]]) (by simp only[go_sem,seval,e0]<;>rfl) (by simp only[go_sem,seval,e0,ler,les,leV]<;>(first|trivial|simp)) (by simp only[go_sem,seval,e0]<;>rfl)) ?_
   exact Can.wl (h:=by simp only[go_sem,seval,e0,ae_,leV,ac_,ad_,V.inn,us,T9_,Ta_]<;>(first|rfl|(obtain⟨b,hb1,hb2⟩:=kc_ h59;rw[hb1];have hbl:=hB b hb1;exact id_ (b+1) (by omega)))) (hi:=by simp only[go_sem,seval,e0,ae_,leV,ac_,ad_,V.inn,us,T9_,Ta_]) (hL:=by simp only[go_sem,seval,e0,ae_,leV,ac_,ad_,V.inn,us,T9_,Ta_]<;>((try rfl)))
  ·refine .seq (.rg [ab_ (o0_ (w.getD k []) (by omega))] ?_ (h:=by simp only[go_sem,seval,e0];rfl))
   refine .cB (fun h32=>?_) (fun h32=>?_) (hc:=by simp only[go_sem,seval,e0];rfl) (hp:=by simp only[go_sem,seval,e0])
   ·refine .rg [] ?_ (h:=by simp only[go_sem,seval,e0];rfl)
    refine Exists.intro ((k+1,.mk 2 0 (w.getD k []) [])) ⟨?_,?_⟩
    ·first|exact⟨mo_ h22,aa1_ h22,Nat.le_refl _⟩|exact⟨kx_ h22 h32,ajn_ h32,Nat.le_refl _⟩|(obtain⟨b,hb1,hb2⟩:=kc_ h59;rw[T5_]at h37;have hbl:=hB b hb1;have hin:b<w.length:=h2_ (by rw[hb2];simp);exact⟨by dsimp only;rw[hb1];show ed_ (n+1) w k d=sAs n w (b+1) (sL1 n w (k+1) (d - 1)).1;exact m7_ (beq_iff_eq.1 h37.1) (of_decide_eq_true h37.2) (show sL1 n w (k+1) (d - 1)=((sL1 n w (k+1) (d - 1)).1,some b) by rw[←hb1]) hb2,by dsimp only;rw[hb1];exact hin,by dsimp only;rw[hb1];show k+1≤b+1;omega⟩)
    refine Can.trans (Can.leAt 19 ([[.i .i64 2,.i .i64 0,.s (w.getD k []),.sl false []]]) (by simp only[go_sem,seval,e0]<;>rfl) (by simp only[go_sem,seval,e0,ler,les,leV]<;>(first|trivial|simp)) (by simp only[go_sem,seval,e0]<;>rfl)) ?_
    exact Can.wl (h:=by simp only[go_sem,seval,e0,ae_,leV,ac_,ad_,V.inn,us,T9_,Ta_]<;>(first|rfl|(obtain⟨b,hb1,hb2⟩:=kc_ h59;rw[hb1];have hbl:=hB b hb1;exact id_ (b+1) (by omega)))) (hi:=by simp only[go_sem,seval,e0,ae_,leV,ac_,ad_,V.inn,us,T9_,Ta_]) (hL:=by simp only[go_sem,seval,e0,ae_,leV,ac_,ad_,V.inn,us,T9_,Ta_]<;>((try rfl)))
   ·refine .seq (.rg [] ?_ (h:=by simp only[go_sem,seval,e0];rfl))
    refine .cB (fun h37=>?_) (fun h37=>?_) (hc:=by simp only[go_sem,seval,e0];rfl) (hp:=by simp only[go_sem,seval,e0])
    ·refine .seq (.rgo [a4_ (k<w.length∧0<d) L] ?_ ?_ (h:=by simp only[go_sem,seval,e0,aj_ (show -9223372036854775808≤d - 1 by omega) (by omega)];rfl))
     ·(rw[T5_]at h37;have hin:k<w.length:=h2_ (by rw[beq_iff_eq.1 h37.1];simp);first|exact⟨hin,of_decide_eq_true h37.2⟩|(refine⟨?_,hin,of_decide_eq_true h37.2⟩;first|rfl|exact id_ _ (by omega)))
     refine .seq (.seq (.rg [ab_ (ky_ w (oN (sL1 n w (k+1) (d - 1)).2))] ?_ (h:=by simp only[go_sem,seval,e0];rfl)))
     refine .cB (fun h59=>?_) (fun h59=>?_) (hc:=by simp only[go_sem,seval,e0];rfl) (hp:=by simp only[go_sem,seval,e0])
     ·refine .seq (.rg [] ?_ (h:=by simp only[go_sem,seval,e0];rfl))
      refine .ret ⟨.inr rfl,?_⟩
      exact Out.plL (by simp only[Tryz.results309];rfl) (by simp only[ag_,go_sem,seval,e0]<;>(rw[T5_]at h37;rw[ali_ h22 h32 ⟨beq_iff_eq.1 h37.1,of_decide_eq_true h37.2⟩ (auc_ h59)];exact⟨⟨rfl,rfl,rfl,af_ _⟩,rfl⟩)) (h1:=by simp only[a8_,b4_,go_sem,seval,e0]<;>(split<;>rfl)) (h3:=by simp only[go_sem,seval,e0])
     ·refine .skip (.seq (.rg [] ?_ (h:=by simp only[go_sem,seval,e0];rfl)))
      refine .rg [] ?_ (h:=by simp only[go_sem,seval,e0];rfl)
      refine Exists.intro (((sL1 n w (k+1) (d - 1)).2.getD 0+1,(sL1 n w (k+1) (d - 1)).1)) ⟨?_,?_⟩
      ·first|exact⟨mo_ h22,aa1_ h22,Nat.le_refl _⟩|exact⟨kx_ h22 h32,ajn_ h32,Nat.le_refl _⟩|(obtain⟨b,hb1,hb2⟩:=kc_ h59;rw[T5_]at h37;have hbl:=hB b hb1;have hin:b<w.length:=h2_ (by rw[hb2];simp);exact⟨by dsimp only;rw[hb1];show ed_ (n+1) w k d=sAs n w (b+1) (sL1 n w (k+1) (d - 1)).1;exact m7_ (beq_iff_eq.1 h37.1) (of_decide_eq_true h37.2) (show sL1 n w (k+1) (d - 1)=((sL1 n w (k+1) (d - 1)).1,some b) by rw[←hb1]) hb2,by dsimp only;rw[hb1];exact hin,by dsimp only;rw[hb1];show k+1≤b+1;omega⟩)
      exact Can.wl (h:=by simp only[go_sem,seval,e0,ae_,leV,ac_,ad_,V.inn,us,T9_,Ta_]<;>(first|rfl|(obtain⟨b,hb1,hb2⟩:=kc_ h59;rw[hb1];have hbl:=hB b hb1;exact id_ (b+1) (by omega)))) (hi:=by simp only[go_sem,seval,e0,ae_,leV,ac_,ad_,V.inn,us,T9_,Ta_]) (hL:=by simp only[go_sem,seval,e0,ae_,leV,ac_,ad_,V.inn,us,T9_,Ta_]<;>((try rfl)))
    ·refine .seq (.rg [] ?_ (h:=by simp only[go_sem,seval,e0];rfl))
     refine .ret ⟨.inr rfl,?_⟩
     exact Out.plL (by simp only[Tryz.results309];rfl) (by simp only[ag_,go_sem,seval,e0]<;>(rw[akt_ h22 h32 (fun e=>by rw[e.1,decide_eq_true (show d > 0 from e.2)]at h37;simp at h37)];exact⟨⟨rfl,rfl,rfl,af_ _⟩,rfl⟩)) (h1:=by simp only[a8_,b4_,go_sem,seval,e0]<;>(split<;>rfl)) (h3:=by simp only[go_sem,seval,e0])
 refine .seq (.block (.loopK (fun q:Nat × Nat × E=>⟨[.sl false (an_ w),.no,.no,.no,.no,.no,.pt 16 4 0 0,.no,.no,.pt 19 4 0 0,.i .i64 q.2.1,.no,.no,.no,.no,.no,.no,.no,.no,.no,.no,.no,.no,.no,.no,.no,.no,.no,.no,.no,.no,.no,.no,.no,.no,.no,.no,.no,.no,.no,.no,.no,.no,.no,.no,.no,.no,.no,.no,.no,.no,.no,.no,.no,.no,.no,.no,.no,.no,.no,.no,.no,.no,.no,.no,.no,.no,.no,.no,.no,.no,.no,.no,.no,.no,.no,.no,.no,.no,.no,.no,.no,.no,.no,.no,.no,.no],ak_ [(16,⟨56,4,[[.i .i64 0,.i .i64 0,.s [],.sl true []]]⟩),(19,⟨56,4,[eC q.2.2]⟩)],us [16,19]⟩) (fun q:Nat × Nat × E=>ed_ (n+1) w k d=sAs q.1 w q.2.1 q.2.2∧q.2.1≤w.length∧10 * (w.length - q.2.1)+1≤q.1) (fun q:Nat × Nat × E=>w.length - q.2.1) ((n,p.1,p.2)) ?_ ?_ (fun q hI=>?_)))
 ·exact⟨hJ.1,hJ.2.1,by dsimp only;omega⟩
 ·exact Can.wl (h:=by simp only[go_sem,seval,e0,ae_,leV,ac_,ad_,V.inn,us,T9_,Ta_]<;>((try simp))) (hi:=by simp only[go_sem,seval,e0,ae_,leV,ac_,ad_,V.inn,us,T9_,Ta_]) (hL:=by simp only[go_sem,seval,e0,ae_,leV,ac_,ad_,V.inn,us,T9_,Ta_]<;>((try simp)))
 refine .seq (.seq (.rg [ab_ (ky_ w (q.2.1:Int))] ?_ (h:=by simp only[go_sem,seval,e0];rfl)))
 refine .cB (fun h67=>?_) (fun h67=>?_) (hc:=by simp only[go_sem,seval,e0];rfl) (hp:=by simp only[go_sem,seval,e0])
 ·refine .skip (.block (.seq (.seq (.rg [ab_ (ky_ w ((q.2.1+1:Nat):Int)),ab_ (o7_ (w.getD (q.2.1+1) []))] ?_ (h:=by simp only[go_sem,seval,e0,id_ (q.2.1+1) (by omega),show((q.2.1:Int)+1)=((q.2.1+1:Nat):Int)from rfl];rfl)))))
  refine .cB (fun h73=>?_) (fun h73=>?_) (hc:=by simp only[go_sem,seval,e0];rfl) (hp:=by simp only[go_sem,seval,e0])
  ·refine .seq (.rg [] ?_ (h:=by simp only[go_sem,seval,e0];rfl))
   refine .ret ⟨.inr rfl,?_⟩
   exact Out.plL (by simp only[Tryz.results309];rfl) (by simp only[ag_,go_sem,seval,e0]<;>(obtain⟨i,hi⟩:∃i,q.1=i+1:=⟨q.1 - 1,by omega⟩;rw[hI.1,hi,atg_ (beq_iff_eq.1 h67) (by simpa only[Bool.not_eq_true']using h73)];exact⟨⟨rfl,rfl,rfl,af_ _⟩,rfl⟩)) (h1:=by simp only[a8_,b4_,go_sem,seval,e0]<;>(split<;>rfl)) (h3:=by simp only[go_sem,seval,e0])
  ·refine .skip (.seq (.rgDo [] ?_ ?_ (h:=by simp only[go_sem,seval,e0,id_ (q.2.1+1) (by omega),show((q.2.1:Int)+1)=((q.2.1+1:Nat):Int)from rfl,aw_ (show q.2.1+1<w.length from u5_ (by simpa using h73))];rfl)))
   ·(have ht:=u5_ (w:=w) (k:=q.2.1+1) (by simpa only[Bool.not_eq_false']using h73);simp[a7_];omega)
   refine .rg [] ?_ (h:=by simp only[go_sem,seval,e0];rfl)
   refine Exists.intro ((q.1 - 1,q.2.1+2,.mk 4 0 (w.getD (q.2.1+1) []) [q.2.2])) ⟨?_,?_,?_⟩
   ·have ht:=u5_ (w:=w) (k:=q.2.1+1) (by simpa only[Bool.not_eq_false']using h73);obtain⟨i,hi⟩:∃i,q.1=i+1:=⟨q.1 - 1,by omega⟩;exact⟨by rw[hI.1,hi];exact axe_ (beq_iff_eq.1 h67) (by simpa only[Bool.not_eq_false']using h73),by dsimp only;omega,by dsimp only;omega⟩
   ·have ht:=u5_ (w:=w) (k:=q.2.1+1) (by simpa only[Bool.not_eq_false']using h73);dsimp only;omega
   refine Can.trans (Can.leAt 19 ([[.i .i64 4,.i .i64 0,.s (w.getD (q.2.1+1) []),.sl false [eC q.2.2]]]) (by simp only[go_sem,seval,e0]<;>rfl) (by simp only[go_sem,seval,e0,ler,les,leV]<;>(first|trivial|simp)) (by simp only[go_sem,seval,e0]<;>rfl)) ?_
   exact Can.wl (h:=by simp only[go_sem,seval,e0,ae_,leV,ac_,ad_,V.inn,us,T9_,Ta_]<;>(exact id_ (q.2.1+2) (by omega))) (hi:=by simp only[go_sem,seval,e0,ae_,leV,ac_,ad_,V.inn,us,T9_,Ta_]) (hL:=by simp only[go_sem,seval,e0,ae_,leV,ac_,ad_,V.inn,us,T9_,Ta_]<;>(simp[E.kind,E.n,E.s,E.kids,eR,gu_]))
 ·refine .exit (.seq (.rg [] ?_ (h:=by simp only[go_sem,seval,e0];rfl)))
  refine .ret ⟨.inr rfl,?_⟩
  exact Out.plL (by simp only[Tryz.results309];rfl) (by simp only[ag_,go_sem,seval,e0]<;>(obtain⟨i,hi⟩:∃i,q.1=i+1:=⟨q.1 - 1,by omega⟩;rw[hI.1,hi,awv_ (fun e=>by rw[e]at h67;simp[wAs]at h67)];exact⟨⟨rfl,rfl,rfl,af_ _⟩,rfl⟩)) (h1:=by simp only[a8_,b4_,go_sem,seval,e0]<;>(split<;>rfl)) (h3:=by simp only[go_sem,seval,e0])
end
section
set_option maxRecDepth 100000
set_option maxHeartbeats 8000000
def nx (o:Option Nat):Nat:=o.getD 0
theorem pu_ {w:List Str} {o:Option Nat} {t:Nat} (ht:1≤t) (h:((decide (oN o ≥ 0)&&lvl (.mk 3 0 (atI w (oN o)) [])==(t:Int))&&fm_ (atI w (oN o)))=true):∃b,o=some b∧b<w.length∧ap_ (w.getD b [])=t:=by
 cases o with
 |none=>exact absurd h (by simp[oN])
 |some b=>
  have h':((decide ((b:Int) ≥ 0)&&lvl (.mk 3 0 (atI w (b:Int)) [])==(t:Int))&&fm_ (atI w (b:Int)))=true:=h
  rw[jv_,T5_,T5_,beq_iff_eq]at h'
  have hb:b<w.length:=h2_ fun e=>by rw[e]at h';exact absurd h'.2 (by decide)
  have:=wb_ (e:=.mk 3 0 (w.getD b []) []) rfl h'.2
  exact⟨b,rfl,hb,this.symm.trans h'.1.2⟩
theorem ayu_ {w:List Str} {o:Option Nat} {t j:Nat} {d:Int} {e:E} (ht:1≤t) (h:((decide (oN o ≥ 0)&&lvl (.mk 3 0 (atI w (oN o)) [])==(t:Int))&&fm_ (atI w (oN o)))=false):e3_ (j+1) w t d e o=(e,o):=by
 cases o with
 |none=>simp only[e3_]
 |some b=>
  refine eo_ fun q=>?_
  have h':((decide ((b:Int) ≥ 0)&&lvl (.mk 3 0 (atI w (b:Int)) [])==(t:Int))&&fm_ (atI w (b:Int)))=false:=h
  rw[jv_]at h'
  have ho:fm_ (w.getD b [])=true:=by
   rw[←xh_];simp only[T3_];omega
  have hl:=wb_ (e:=.mk 3 0 (w.getD b []) []) rfl ho
  have hl2:lvl (.mk 3 0 (w.getD b []) [])=(t:Int):=hl.trans q
  rw[hl2,ho,decide_eq_true (show((b:Int) ≥ 0) by omega)]at h'
  simp at h'
theorem amw_ {n:Nat} {w:List Str} {t:Nat} {d:Int} {e:E} {b:Nat} (h:ap_ (w.getD b [])=t):e3_ (n+1) w t d e (some b)=e3_ n w t d (.mk 3 0 (w.getD b []) [e,(sLp n w (b+1) (t+1) d).1]) (sLp n w (b+1) (t+1) d).2:=by rw[e3_,if_pos h]
def mz (L:Nat):Option Nat→Nat
 |none=>0
 |some b=>L+1 - b
def LpI (w:List Str) (t:Nat) (d:Int) (n:Nat) (r:E × Option Nat) (q:Nat × E × Option Nat):Prop:=
 r=e3_ q.1 w t d q.2.1 q.2.2∧1≤q.1∧q.1≤n∧t<4∧∀b,q.2.2=some b→b≤w.length∧10 * (w.length - b)+1≤q.1
theorem avi_ {w:List Str} (hw:smW w) {n k t:Nat} {d:Int} (t4:t<4) (hn:10 * (w.length - k)+10 - t≤n+1):LpI w t d n (sLp (n+1) w k t d) (n,(sLp n w k (t+1) d).1,(sLp n w k (t+1) d).2):=by
 refine⟨?_,by omega,Nat.le_refl _,t4,fun b hb=>?_⟩
 ·dsimp only;rw[sLp,if_neg (by omega)]
 ·have:=((vd_ w hw n).2.1 k (t+1) d).2 b hb
  dsimp only;omega
theorem c5_ {w:List Str} (hw:smW w) {n t:Nat} {d:Int} {r:E × Option Nat} {q:Nat × E × Option Nat} (h:LpI w t d n r q) (ht:1≤t) (hc:((decide (oN q.2.2 ≥ 0)&&lvl (.mk 3 0 (atI w (oN q.2.2)) [])==(t:Int))&&fm_ (atI w (oN q.2.2)))=true) :
  LpI w t d n r (q.1 - 1,.mk 3 0 (w.getD (nx q.2.2) []) [q.2.1,(sLp (q.1 - 1) w (nx q.2.2+1) (t+1) d).1],(sLp (q.1 - 1) w (nx q.2.2+1) (t+1) d).2)∧mz w.length (sLp (q.1 - 1) w (nx q.2.2+1) (t+1) d).2<mz w.length q.2.2∧
  (q.1≤n∧nx q.2.2<w.length∧10 * (w.length - nx q.2.2)+1≤q.1∧t<4):=by
 obtain⟨b,hb,hin,hti⟩:=pu_ ht hc
 obtain⟨h1,h2,h3,h4,h5⟩:=h
 have hq:=h5 b hb
 have hn:nx q.2.2=b:=by rw[hb];rfl
 rw[hn]
 obtain⟨i,hi⟩:∃i,q.1=i+1:=⟨q.1 - 1,by omega⟩
 have hi':q.1 - 1=i:=by omega
 have hs:=fun b' hb'=>((vd_ w hw (q.1 - 1)).2.1 (b+1) (t+1) d).2 b' hb'
 refine⟨⟨?_,?_,?_,h4,fun b' hb'=>?_⟩,?_,h3,hin,hq.2,h4⟩
 ·rw[h1,hb,hi,amw_ hti];rfl
 ·dsimp only;omega
 ·dsimp only;omega
 ·have:=hs b' hb';dsimp only;omega
 ·cases ho:(sLp (q.1 - 1) w (b+1) (t+1) d).2 with
  |none=>rw[hb];simp only[mz];omega
  |some b'=>have:=hs b' ho;rw[hb];simp only[mz];omega
theorem au3_ {w:List Str} {n t:Nat} {d:Int} {r:E × Option Nat} {q:Nat × E × Option Nat} (h:LpI w t d n r q) (ht:1≤t) (hc:((decide (oN q.2.2 ≥ 0)&&lvl (.mk 3 0 (atI w (oN q.2.2)) [])==(t:Int))&&fm_ (atI w (oN q.2.2)))=false):r=q.2:=by
 obtain⟨h1,h2, -⟩:=h
 obtain⟨i,hi⟩:∃i,q.1=i+1:=⟨q.1 - 1,by omega⟩
 rw[h1,hi,ayu_ ht hc]
attribute [local go_sem] al_ aq_ gu_ in
theorem aml_ (w:List Str) (hw:smW w) (hl:w.length≤1000000) (n:Nat) (ihA:∀j,j<n+1→afi_ w j) (ihL:∀j,j<n+1→LpOk w j):LpOk w (n+1):=fun k t d d0 d5 t2 t4 hk hn=>by
 have hB:=(vd_ w hw n).2.1
 have A:=fun(h:t=4)=>ihA n (by omega) k d d0 d5 hk (by omega)
 have L:=fun(h:t<4)=>ihL n (by omega) k (t+1) d d0 d5 (by omega) (by omega) hk (by omega)
 have L2:=fun(j b:Nat) (h:j≤n∧b<w.length∧10 * (w.length - b)+1≤j∧t<4)=>ihL (j - 1) (by omega) (b+1) (t+1) d d0 d5 (by omega) (by omega) (by omega) (by omega)
 refine aa_ [] Tryz.func284 Tryz.ntmps284 fun C=>?_
 refine .seq (.rgo [] ?_ ?_)
 ·(first|trivial|(simp;done)|(have h3:=of_decide_eq_true h15;omega)|(have h3:=of_decide_eq_false h15;omega)|exact⟨fun h=>⟨h,rfl⟩,fun h=>⟨h,rfl,rfl,rfl,af_ _⟩⟩|exact(c5_ hw hI (by omega) h47).2.2|(have h3:=(c5_ hw hI (by omega) h47).2.2;exact⟨⟨by omega,by omega⟩,rfl⟩))
 refine .seq (.seq (.rgo [] ?_ ?_))
 ·(first|trivial|(simp;done)|(have h3:=of_decide_eq_true h15;omega)|(have h3:=of_decide_eq_false h15;omega)|exact⟨fun h=>⟨h,rfl⟩,fun h=>⟨h,rfl,rfl,rfl,af_ _⟩⟩|exact(c5_ hw hI (by omega) h47).2.2|(have h3:=(c5_ hw hI (by omega) h47).2.2;exact⟨⟨by omega,by omega⟩,rfl⟩))
 refine .cB (fun h15=>?_) (fun h15=>?_)
 ·refine .seq (.rgo [a4_ (t=4) A] ?_ ?_)
  ·(first|trivial|(simp;done)|(have h3:=of_decide_eq_true h15;omega)|(have h3:=of_decide_eq_false h15;omega)|exact⟨fun h=>⟨h,rfl⟩,fun h=>⟨h,rfl,rfl,rfl,af_ _⟩⟩|exact(c5_ hw hI (by omega) h47).2.2|(have h3:=(c5_ hw hI (by omega) h47).2.2;exact⟨⟨by omega,by omega⟩,rfl⟩))
  refine .ret ⟨.inr rfl,?_⟩
  exact Out.plL (by simp only[Tryz.results284];rfl) (by simp only[ag_,go_sem,seval]<;>(have h3:=of_decide_eq_true h15;rw[sLp,if_pos (by omega)];exact⟨⟨rfl,rfl,rfl,af_ _⟩,rfl⟩))
 ·refine .skip (.seq (.rgo [a4_ (t<4) L] ?_ ?_ (h:=by simp only[go_sem,seval,id_ (t+1) (by omega),show((t:Int)+1)=((t+1:Nat):Int)from rfl];rfl)))
  ·(first|trivial|(simp;done)|(have h3:=of_decide_eq_true h15;omega)|(have h3:=of_decide_eq_false h15;omega)|exact⟨fun h=>⟨h,rfl⟩,fun h=>⟨h,rfl,rfl,rfl,af_ _⟩⟩|exact(c5_ hw hI (by omega) h47).2.2|(have h3:=(c5_ hw hI (by omega) h47).2.2;exact⟨⟨by omega,by omega⟩,rfl⟩))
  refine .seq (.block (.loopK (fun q:Nat × E × Option Nat=>⟨[.sl false (an_ w),.no,.i .i64 t,.i .i64 d,.no,.no,.no,.no,.pt 18 4 0 0,.no,.pt 20 4 0 0,.i .i64 (oN q.2.2),.no,.no,.no,.no,.no,.no,.no,.no,.no,.no,.no,.no,.no,.no,.no,.no,.no,.no,.no,.no,.no,.no,.no,.no,.no,.no,.no,.no,.no,.no,.no,.no,.no,.no,.no,.no,.no,.no,.no,.no,.no,.no,.no,.no,.no,.no,.no,.no,.no,.no,.no,.no,.no,.no,.no,.no,.no],ak_ [(18,⟨56,4,[[.i .i64 0,.i .i64 0,.s [],.sl true []]]⟩),(20,⟨56,4,[eC q.2.1]⟩)],us [18,20]⟩) (fun q:Nat × E × Option Nat=>LpI w t d n (sLp (n+1) w k t d) q) (fun q:Nat × E × Option Nat=>mz w.length q.2.2) ((n,(sLp n w k (t+1) d).1,(sLp n w k (t+1) d).2)) ?_ ?_ (fun q hI=>?_)))
  ·have h3:=of_decide_eq_false h15;exact avi_ hw (by omega) hn
  ·refine Can.wk ?_ ?_
   ·first|trivial|((try simp))
   ·first|trivial|((try simp))
  refine .seq (.seq (.rgo [ab_ (ky_ w (oN q.2.2)),ab_ (rb_ (.mk 3 0 (atI w (oN q.2.2)) [])),ab_ (ky_ w (oN q.2.2)),ab_ (ark_ (atI w (oN q.2.2)))] ?_ ?_))
  ·(first|trivial|(simp;done)|(have h3:=of_decide_eq_true h15;omega)|(have h3:=of_decide_eq_false h15;omega)|exact⟨fun h=>⟨h,rfl⟩,fun h=>⟨h,rfl,rfl,rfl,af_ _⟩⟩|exact(c5_ hw hI (by omega) h47).2.2|(have h3:=(c5_ hw hI (by omega) h47).2.2;exact⟨⟨by omega,by omega⟩,rfl⟩))
  refine .cB (fun h47=>?_) (fun h47=>?_)
  ·refine .skip (.block (.seq (.rgo [a4_ (q.1≤n∧nx q.2.2<w.length∧10 * (w.length - nx q.2.2)+1≤q.1∧t<4) (L2 q.1 (nx q.2.2))] ?_ ?_ (h:=by simp only[go_sem,seval,id_ (t+1) (by omega),show((t:Int)+1)=((t+1:Nat):Int)from rfl,show oN q.2.2=(nx q.2.2:Int) by(obtain⟨b,hb,_⟩:=pu_ (by omega) h47;rw[hb];rfl),id_ (nx q.2.2+1) (by(obtain⟨b,hb,hb2,_⟩:=pu_ (by omega) h47;rw[hb];show b+1≤_;omega)),show((nx q.2.2:Int)+1)=((nx q.2.2+1:Nat):Int)from rfl];rfl))))
   ·(first|trivial|(simp;done)|(have h3:=of_decide_eq_true h15;omega)|(have h3:=of_decide_eq_false h15;omega)|exact⟨fun h=>⟨h,rfl⟩,fun h=>⟨h,rfl,rfl,rfl,af_ _⟩⟩|exact(c5_ hw hI (by omega) h47).2.2|(have h3:=(c5_ hw hI (by omega) h47).2.2;exact⟨⟨by omega,by omega⟩,rfl⟩))
   refine .seq (.rgDo [] ?_ ?_ (h:=by simp only[go_sem,seval,show oN q.2.2=(nx q.2.2:Int) by(obtain⟨b,hb,_⟩:=pu_ (by omega) h47;rw[hb];rfl),aw_ (show nx q.2.2<w.length by(obtain⟨b,hb,hb2,_⟩:=pu_ (by omega) h47;rw[hb];exact hb2))];rfl))
   ·(first|trivial|(simp;done)|(have h3:=of_decide_eq_true h15;omega)|(have h3:=of_decide_eq_false h15;omega)|exact⟨fun h=>⟨h,rfl⟩,fun h=>⟨h,rfl,rfl,rfl,af_ _⟩⟩|exact(c5_ hw hI (by omega) h47).2.2|(have h3:=(c5_ hw hI (by omega) h47).2.2;exact⟨⟨by omega,by omega⟩,rfl⟩))
   refine .rgo [] ?_ ?_
   ·(first|trivial|(simp;done)|(have h3:=of_decide_eq_true h15;omega)|(have h3:=of_decide_eq_false h15;omega)|exact⟨fun h=>⟨h,rfl⟩,fun h=>⟨h,rfl,rfl,rfl,af_ _⟩⟩|exact(c5_ hw hI (by omega) h47).2.2|(have h3:=(c5_ hw hI (by omega) h47).2.2;exact⟨⟨by omega,by omega⟩,rfl⟩))
   refine Exists.intro ((q.1 - 1,.mk 3 0 (w.getD (nx q.2.2) []) [q.2.1,(sLp (q.1 - 1) w (nx q.2.2+1) (t+1) d).1],(sLp (q.1 - 1) w (nx q.2.2+1) (t+1) d).2)) ⟨?_,?_,?_⟩
   ·exact(c5_ hw hI (by omega) h47).1
   ·exact(c5_ hw hI (by omega) h47).2.1
   refine Can.trans (Can.leAt 20 ([[.i .i64 3,.i .i64 0,.s (w.getD (nx q.2.2) []),.sl false [eC q.2.1,eC (sLp (q.1 - 1) w (nx q.2.2+1) (t+1) d).1]]]) (by simp only[go_sem,seval]<;>rfl) (by simp only[go_sem,seval,ler,les,leV]<;>(first|trivial|simp)) (by simp only[go_sem,seval]<;>rfl)) ?_
   refine Can.wk ?_ ?_
   ·first|trivial|(rfl)
   ·first|trivial|(simp[E.kind,E.n,E.s,E.kids,eR,gu_])
  ·refine .exit (.seq (.rgo [] ?_ ?_))
   ·(first|trivial|(simp;done)|(have h3:=of_decide_eq_true h15;omega)|(have h3:=of_decide_eq_false h15;omega)|exact⟨fun h=>⟨h,rfl⟩,fun h=>⟨h,rfl,rfl,rfl,af_ _⟩⟩|exact(c5_ hw hI (by omega) h47).2.2|(have h3:=(c5_ hw hI (by omega) h47).2.2;exact⟨⟨by omega,by omega⟩,rfl⟩))
   refine .ret ⟨.inr rfl,?_⟩
   exact Out.plL (by simp only[Tryz.results284];rfl) (by simp only[ag_,go_sem,seval]<;>(rw[au3_ hI (by omega) h47];exact⟨⟨rfl,rfl,rfl,af_ _⟩,rfl⟩))
end
section
set_option maxRecDepth 100000
set_option maxHeartbeats 8000000
attribute [local go_sem] at_ bm_ dr_ in
theorem aae_ (e:E) (h:eok e=true) (hs:sm e=true):ACall En 256 [.ag (eC e)] [] [.sl false (an_ (wds e 1))] []:=by
 have hf:=ay_ h
 have hm:many e ((5:Nat):Int)≤12:=kg_ h
 have hw:=cv_ 5 e 0 hf
 have W:ACall En 202 [.ag (eC e),.i .i64 0,.pt 0 1 0 0] [⟨3,1,[[.i .i64 0]]⟩] [.sl false (wdR (src e 0 0))] [⟨3,1,[[.i .i64 (0+cnt e)]]⟩]:=
  ACall.frzL (Lr:=[⟨3,1,[[.i .i64 (0+cnt e)]]⟩]) (oz_ 5 e 0 0 hf hs (by omega) (by decide) (by omega) (by decide)) (by simp) (by simp[er_,frz,cj_,T1_])
 have hl:(src e 0 0).length≤1000000:=by rw[show(src e 0 0).length=(wds e 0).length by rw[←ek_ e 0 0,List.length_map]];omega
 refine aa_ [] Tryz.func256 Tryz.ntmps256 fun C=>?_
 refine .seq (.rg [] ?_)
 refine .seq (.seq (.rg [ab_ (g9_ e hs)] ?_))
 refine .cB (fun h6=>?_) (fun h6=>?_)
 ·simp[h]at h6
 ·refine .skip (.seq (.rg [] ?_))
  refine .seq (.rg [bf_ [13] [] W,ab_ (lz_ (src e 0 0) hl)] ?_)
  refine .ret ⟨.inr rfl,?_⟩
  exact Out.pl (by simp only[Tryz.results256];rfl) (by simp only[ag_,go_sem,seval]<;>(rw[ek_,fa_ hf]))
theorem amb_ {a b:List Str} {k:Nat} (ha:k<a.length) (hb:k<b.length) (h:a.take k=b.take k) (e:a.getD k []=b.getD k []):a.take (k+1)=b.take (k+1):=by
 rw[List.take_add_one (l:=a),List.take_add_one (l:=b),h,T6_ ha,T6_ hb]
 rw[T8_,T8_,T6_ ha,T6_ hb]at e
 rw[show a[k]=b[k] by simpa using e]
attribute [local go_sem] al_ aq_ in
theorem at1_ (a b:List Str) (ha:a.length≤1000000000000) (hb:b.length≤1000000000000):ACall En 255 [.sl false (an_ a),.sl false (an_ b)] [] [.b (a==b)] []:=by
 refine aa_ [] Tryz.func255 Tryz.ntmps255 fun C=>?_
 refine .seq (.rg [] ?_)
 refine .seq (.seq (.rg [] ?_))
 refine .cB (fun h10=>?_) (fun h10=>?_)
 ·refine .seq (.rg [] ?_)
  refine .ret ⟨.inr rfl,?_⟩
  exact Out.pl (by simp only[Tryz.results255];rfl) (by simp only[ag_,go_sem,seval]<;>(have:a≠b:=(fun e=>by simp[e]at h10);simp[this]))
 ·refine .skip (.seq (.seq (.rg [] ?_)))
  refine .block (.loopK (fun k:Nat=>⟨[.sl false (an_ a),.sl false (an_ b),.no,.no,.no,.no,.no,.no,.no,.no,.no,.no,.i .i64 a.length,.i .i64 k,.no,.no,.no,.no,.no,.no,.no,.no,.no,.no,.no,.no],ak_ [],us []⟩) (fun k:Nat=>k≤a.length∧a.take k=b.take k) (fun k:Nat=>a.length - k) (0) ?_ ?_ (fun k hI=>?_))
  ·exact⟨Nat.zero_le _,rfl⟩
  ·refine Can.wh ?_;first|trivial|(simp)
  refine .seq (.rg [] ?_)
  refine .seq (.cB (fun h14=>?_) (fun h14=>?_))
  ·refine .skip (.seq (.block (.seq (.rg [] ?_))))
   refine .seq (.rgDo [] ?_ ?_ (h:=by simp only[go_sem,seval,aw_ (show k<a.length by simpa using h14),aw_ (show k<b.length by simp at h14 h10;omega)];rfl))
   ·simp at h14 h10;simp;omega
   refine .cB (fun h24=>?_) (fun h24=>?_)
   ·refine .seq (.rg [] ?_)
    refine .ret ⟨.inr rfl,?_⟩
    exact Out.pl (by simp only[Tryz.results255];rfl) (by simp only[ag_,go_sem,seval]<;>(have:a≠b:=(fun e=>by simp[e]at h24);simp[this]))
   ·refine .skip (.rg [] ?_)
    refine Exists.intro (k+1) ⟨?_,?_,?_⟩
    ·simp only[T3_]at h14;simp at h10;exact⟨by omega,amb_ (by omega) (by omega) hI.2 (by simpa using h24)⟩
    ·simp at h14;omega
    refine Can.wh ?_;first|trivial|(rw[aj_ (by simp at h14;omega) (by simp at h14;omega)];simp)
  ·refine .exit (.seq (.rg [] ?_))
   refine .ret ⟨.inr rfl,?_⟩
   exact Out.pl (by simp only[Tryz.results255];rfl) (by simp only[ag_,go_sem,seval]<;>(simp only[T4_]at h14;simp at h10;have q:=hI.2;rw[T1_ (by omega),T1_ (by omega)]at q;simp[q]))
def jj_ (w:List Str):Bool:=(ej_ w).isSome
attribute [local go_sem] at_ bm_ al_ aq_ in
theorem d5_ (w:List Str) (hw:smW w) (hl:w.length≤1000000):ACall En 195 [.sl false (an_ w)] [] [.ag (eC (ex w)),.b (jj_ w)] []:=by
 have hR:w.length≤40→ACall En 254 [.pt 0 3 0 0,.i .i64 ((1:Nat):Int)] [rsB ⟨w,false,0⟩] [.ag (eC (b5_ 500 1 ⟨w,false,0⟩).1)] [rsB (b5_ 500 1 ⟨w,false,0⟩).2]:=fun h=>(anu_ 500).1 1 ⟨w,false,0⟩ (by decide) ⟨hw,Int.le_refl _,by dsimp only;omega⟩ (by dsimp only;omega)
 have hS:=((i_sm 500).1 1 ⟨w,false,0⟩ hw).1
 have hE:ej_ w=if w.length≤40 then(if ((b5_ 500 1 ⟨w,false,0⟩).2.bad||!(b5_ 500 1 ⟨w,false,0⟩).2.left.isEmpty||!eok (b5_ 500 1 ⟨w,false,0⟩).1||!(wds (b5_ 500 1 ⟨w,false,0⟩).1 1==w))then none else some (b5_ 500 1 ⟨w,false,0⟩).1)else none:=rfl
 have hL:=(ai6_ 500).1 1 ⟨w,false,0⟩
 generalize b5_ 500 1 ⟨w,false,0⟩=q at *
 have hq:(!q.2.left.isEmpty)=decide ((q.2.left.length:Int) > 0):=by cases q.2.left<;>simp
 rw[hq]at hE
 have n1:decide ((w.length:Int) > 40)=true→ej_ w=none:=fun h=>by rw[hE,if_neg (by simp at h;omega)]
 have n2:decide ((w.length:Int) > 40)=false→(q.2.bad||decide ((q.2.left.length:Int) > 0)||!eok q.1||!(wds q.1 1==w))=true→ej_ w=none:=fun h h2=>by rw[hE,if_pos (by simp at h;omega),if_pos h2]
 have n3:decide ((w.length:Int) > 40)=false→(q.2.bad||decide ((q.2.left.length:Int) > 0)||!eok q.1||!(wds q.1 1==w))=false→ej_ w=some q.1:=fun h h2=>by rw[hE,if_pos (by simp at h;omega),h2];rfl
 refine aa_ [] Tryz.func195 Tryz.ntmps195 fun C=>?_
 refine .seq (.rg [] ?_)
 refine .seq (.seq (.rg [] ?_))
 refine .cB (fun h8=>?_) (fun h8=>?_)
 ·refine .seq (.rg [] ?_)
  refine .ret ⟨.inr rfl,?_⟩
  exact Out.plL (by simp only[Tryz.results195];rfl) (by simp only[ag_,go_sem,seval]<;>(simp[ex,jj_,n1 h8,E0,E.kind,E.n,E.s,E.kids,eR,ler]))
 ·refine .skip (.seq (.rg [] ?_))
  refine .seq (.rg [bf_ [22] [] (hR (by simp at h8;omega))] ?_)
  refine .seq (.seq (.rgo [ab_ (g9_ q.1 hS),a4_ (eok q.1=true) (fun h=>aae_ q.1 h hS),a4_ (eok q.1=true) (fun h=>at1_ (wds q.1 1) w (by have:=(bk_ h 1).2.1;omega) (by omega))] ?_ ?_))
  ·(have key:∀x:Bool,x=false→(!x)=true:=(fun x h=>by rw[h];rfl));exact⟨⟨⟨⟨key _,key _⟩,fun h=>⟨h,by simp at h;exact h.2⟩⟩,fun h=>⟨h,by simp at h;exact h.2⟩⟩,key _⟩
  refine .cB (fun h38=>?_) (fun h38=>?_)
  ·refine .seq (.rg [] ?_)
   refine .ret ⟨.inr rfl,?_⟩
   exact Out.plL (by simp only[Tryz.results195];rfl) (by simp only[ag_,go_sem,seval]<;>(simp[ex,jj_,n2 h8 h38,E0,E.kind,E.n,E.s,E.kids,eR,ler]))
  ·refine .skip (.seq (.rg [] ?_))
   refine .ret ⟨.inr rfl,?_⟩
   exact Out.plL (by simp only[Tryz.results195];rfl) (by simp only[ag_,go_sem,seval]<;>(simp[ex,jj_,n3 h8 h38,af_]))
end
section
set_option maxRecDepth 100000
set_option maxHeartbeats 8000000
theorem mt_ (l:List Str) (k:Nat):(an_ l).drop k=an_ (l.drop k):=by simp[an_,List.map_drop]
theorem ms_ (l:List Str) (k:Nat):(an_ l).take k=an_ (l.take k):=by simp[an_,List.map_take]
theorem bu_ {l:List Str} (h:smW l) (k:Nat):smW (l.drop k):=fun w hw=>h w (List.mem_of_mem_drop hw)
theorem hx_ {l:List Str} (h:smW l) (k:Nat):smW (l.take k):=fun w hw=>h w (List.mem_of_mem_take hw)
def bg_ (s:Str):List Str:=((a1_ s).getD []).map (·.s)
theorem q7_:∀(n:Nat) (l:Str) (c:Int) (t:List Tk),fk_ n l c=some t→t.length≤l.length
 |0,l,c,t,h=>by simp[fk_]at h;subst h;simp
 |n+1,[],c,t,h=>by simp[fk_]at h;subst h;simp
 |n+1,x::l,c,t,h=>by
  simp only[fk_]at h
  split at h
  ·have:=q7_ n l _ t h;simp only[T7_];omega
  ·split at h
   ·cases h
   ·obtain⟨u,hu,rfl⟩:=Option.map_eq_some_iff.1 h
    have h1:=q7_ n _ _ u hu
    have h2:=qb_ (x::l)
    rw[List.length_drop]at h1
    simp only[T7_]at h1 ⊢;omega
theorem wq_ (s:Str):((a1_ s).getD []).length≤120:=by
 cases h:a1_ s with
 |none=>simp
 |some t=>
  unfold a1_ at h
  split at h
  ·cases h
  ·have:=q7_ _ _ _ _ h;simp only[Option.getD_some];omega
theorem pw_ (b:Bl):bv_ (bC b)=true:=by rw[cz_];simp only[bv_,V.pure,ht_,Bool.and_self]
theorem tr_ (l:List Str) (s:Str) : -1≤bj_ l s∧bj_ l s<l.length:=by
 unfold bj_
 split
 ·rename_i h
  have:=List.idxOf_lt_length_iff.2 h
  omega
 ·omega
attribute [local go_sem] hs_ ft_ j1_ fr_ in
theorem yi_ (s:Str) (hs:s.length≤281474976710656):ACall En 128 [.s s] [] [.sl false (an_ (bg_ s)),.b (a1_ s).isSome] []:=by
 have T:=xl_ s hs
 have hb:=wq_ s
 unfold bg_
 generalize (a1_ s).getD []=ts at *
 have hp:∀k,bh_ (en_ (an_ (ts.map (·.s))) [.s []] k)=true:=fun k=>io_ (aq_ _) rfl
 have hll:(an_ (ts.map (·.s))).length=ts.length:=by simp[an_]
 refine aa_ [] Tryz.func128 Tryz.ntmps128 fun C=>?_
 refine .seq (.rg [] ?_ (h:=by simp only[go_sem,seval,hp,hll];rfl))
 refine .seq (.rg [ab_ T] ?_ (h:=by simp only[go_sem,seval,hp,hll];rfl))
 refine .seq (.rgo [] ?_ ?_ (h:=by simp only[go_sem,seval,hp,hll];rfl))
 ·simp;omega
 refine .seq (.seq (.rg [] ?_ (h:=by simp only[go_sem,seval,hp,hll];rfl)))
 refine .block (.loopK (fun k:Nat=>⟨[.no,.no,.no,.no,.no,.b (a1_ s).isSome,.ow 26 1 0 ts.length,.no,.no,.no,.no,.no,.no,.no,.no,.no,.no,.sl false (tkR ts),.i .i64 ts.length,.i .i64 k,.no,.no,.no,.no,.no,.no,.no,.no,.no,.no,.no,.no],ak_ [(26,⟨9,1,en_ (an_ (ts.map (·.s))) [.s []] k⟩)],us [26]⟩) (fun k:Nat=>k≤ts.length) (fun k:Nat=>ts.length - k) (0) ?_ ?_ (fun k hI=>?_))
 ·simp
 ·exact Can.wl (h:=by simp only[go_sem,seval,hp,hll,ae_,leV,ac_,ad_,V.inn,us,T9_,Ta_]<;>(simp)) (hi:=by simp only[go_sem,seval,hp,hll,ae_,leV,ac_,ad_,V.inn,us,T9_,Ta_]) (hL:=by simp only[go_sem,seval,hp,hll,ae_,leV,ac_,ad_,V.inn,us,T9_,Ta_]<;>(simp[ip_,hll]))
 refine .seq (.rg [] ?_ (h:=by simp only[go_sem,seval,hp,hll];rfl))
 refine .seq (.cB (fun h20=>?_) (fun h20=>?_) (hc:=by simp only[go_sem,seval,hp,hll];rfl) (hp:=by simp only[go_sem,seval,hp,hll]))
 ·refine .skip (.seq (.block (.seq (.rgo [] ?_ ?_ (h:=by simp only[go_sem,seval,hp,hll,s5_ (show k<ts.length by simpa using h20)];rfl)))))
  ·simp at h20;simp;omega
  refine .rgo [] ?_ ?_ (h:=by simp only[go_sem,seval,hp,hll];rfl)
  ·simp at h20;simp;omega
  refine .rg [] ?_ (h:=by simp only[go_sem,seval,hp,hll];rfl)
  refine Exists.intro (k+1) ⟨?_,?_,?_⟩
  ·simp at h20;omega
  ·simp at h20;omega
  exact Can.wl (h:=by simp only[go_sem,seval,hp,hll,ae_,leV,ac_,ad_,V.inn,us,T9_,Ta_]<;>(rw[aj_ (by simp at h20;omega) (by simp at h20;omega)];simp)) (hi:=by simp only[go_sem,seval,hp,hll,ae_,leV,ac_,ad_,V.inn,us,T9_,Ta_]) (hL:=by simp only[go_sem,seval,hp,hll,ae_,leV,ac_,ad_,V.inn,us,T9_,Ta_]<;>((rw[←i3_ (by rw[hll];simpa using h20),aw_ (by simpa using h20)];simp[T8_,T6_ (show k<ts.length by simpa using h20)])))
 ·refine .exit (.seq (.rg [] ?_ (h:=by simp only[go_sem,seval,hp,hll];rfl)))
  refine .frz 26 (by simp only[go_sem,seval,hp,hll];rfl) (by simp only[go_sem,seval,hp,hll]) (by simp only[go_sem,seval,hp,hll];rfl) (by simp only[go_sem,seval,hp,hll];rfl) ?_
  refine .ret ⟨.inr rfl,?_⟩
  exact Out.pl (by simp only[Tryz.results128];rfl) (by simp only[ag_,go_sem,seval,hp,hll]<;>(simp at h20;rw[kb_ (by omega)];simp[←hll,T1_,peel])) (h1:=by simp only[a8_,b4_,go_sem,seval,hp,hll]<;>(split<;>rfl)) (h3:=by simp only[go_sem,seval,hp,hll])
theorem ah3_ (w:List Str):(decide ((w.length:Int) > 0)=true→decide ((w.length:Int) > 0)=true∧(0:Int)<w.length∧((an_ w).getD 0 []).length=1)∧(decide ((w.length:Int) > 0)=true→(decide ((w.length:Int) > 0)=true∧1≤((an_ w).getD 0 []).length)∧({ v:=((an_ w).getD 0 []).getD 0 .no }:Eff)={ v:=.s (w.getD 0 []) }):=by
 cases w with
 |nil=>simp
 |cons x r=>simp[an_]
attribute [local go_sem] asO al_ aq_ mt_ ms_ bz_ pw_ in
theorem agr_ (w:List Str) (hw:smW w) (hl:w.length≤100000):ACall En 220 [.sl false (an_ w)] [] [.ag (bC (ge_ w))] []:=by
 have hs:=tr_ w bz_
 simp only[bz_]at hs
 have hsw:IntKind.i64.wrap (bj_ w [58]+2)=bj_ w [58]+2:=aj_ (by omega) (by omega)
 have ht:0<bj_ w [58]→(bj_ w [58]+2).toNat=(bj_ w [58]).toNat+2:=fun h=>by omega
 refine aa_ [] Tryz.func220 Tryz.ntmps220 fun C=>?_
 refine .seq (.rgo [] ?_ ?_ (h:=by simp only[go_sem,seval,hsw];rfl))
 ·(first|trivial|(simp;done)|(simp[ai_];done)|(simp[ai_];omega))
 refine .seq (.rgo [] ?_ ?_ (h:=by simp only[go_sem,seval,hsw];rfl))
 ·(first|trivial|(simp;done)|(simp[ai_];done)|(simp[ai_];omega))
 refine .seq (.block (.seq (.rgSo [12] [asO En { v:=.s (w.getD 0 []) }] ?_ ?_ (h:=by simp only[go_sem,seval,hsw];rfl))))
 ·exact ah3_ w
 refine .cB (fun h5=>?_) (fun h5=>?_) (hc:=by simp only[go_sem,seval,hsw];rfl) (hp:=by simp only[go_sem,seval,hsw])
 ·refine .seq (.rgo [] ?_ ?_ (h:=by simp only[go_sem,seval,hsw];rfl))
  ·(first|trivial|(simp;done)|(simp[ai_];done)|(simp[ai_];omega))
  refine .rgo [ab_ (d5_ (w.drop 1) (bu_ hw 1) (by simp;omega))] ?_ ?_ (h:=by simp only[go_sem,seval,hsw];rfl)
  ·simp only[T5_,T3_]at h5;simp[ai_,af_];omega
  refine .seq (.rgo [] ?_ ?_ (h:=by simp only[go_sem,seval,hsw];rfl))
  ·(first|trivial|(simp;done)|(simp[ai_];done)|(simp[ai_];omega))
  refine .ret ⟨.inr rfl,?_⟩
  exact Out.plL (by simp only[Tryz.results220];rfl) (by simp only[ag_,go_sem,seval,hsw]<;>((have e:ge_ w=⟨2,[],ex (w.drop 1),E0⟩:=(by unfold ge_;rw[if_pos (by simpa[bi_]using h5)]));rw[e,cz_];simp[les,leV,ler,af_,hc_,hp_,ha_,b0_,cl_])) (h1:=by simp only[a8_,b4_,go_sem,seval,hsw]<;>(split<;>rfl)) (h3:=by simp only[go_sem,seval,hsw])
 ·refine .seq (.rgSo [30] [asO En { v:=.s (w.getD 0 []) }] ?_ ?_ (h:=by simp only[go_sem,seval,hsw];rfl))
  ·exact ah3_ w
  refine .cB (fun h23=>?_) (fun h23=>?_) (hc:=by simp only[go_sem,seval,hsw];rfl) (hp:=by simp only[go_sem,seval,hsw])
  ·refine .seq (.rgo [] ?_ ?_ (h:=by simp only[go_sem,seval,hsw];rfl))
   ·(first|trivial|(simp;done)|(simp[ai_];done)|(simp[ai_];omega))
   refine .seq (.rgo [ab_ (aah_ w bz_ (by omega))] ?_ ?_ (h:=by simp only[go_sem,seval,hsw];rfl))
   ·(first|trivial|(simp;done)|(simp[ai_];done)|(simp[ai_];omega))
   refine .seq (.rgo [] ?_ ?_ (h:=by simp only[go_sem,seval,hsw];rfl))
   ·(first|trivial|(simp;done)|(simp[ai_];done)|(simp[ai_];omega))
   refine .cB (fun h44=>?_) (fun h44=>?_) (hc:=by simp only[go_sem,seval,hsw];rfl) (hp:=by simp only[go_sem,seval,hsw])
   ·refine .seq (.rgo [ab_ (d5_ ((w.take (bj_ w bz_).toNat).drop 1) (bu_ (hx_ hw _) 1) (by simp;omega))] ?_ ?_ (h:=by simp only[go_sem,seval,hsw];rfl))
    ·simp only[T5_,T3_]at h44;simp[ai_];omega
    refine .rgo [ab_ (d5_ (w.drop ((bj_ w bz_).toNat+2)) (bu_ hw _) (by simp;omega))] ?_ ?_ (h:=by simp only[go_sem,seval,hsw,ht (by simp at h44;exact h44.1)];rfl)
    ·simp only[T5_,T3_]at h44;simp[ai_,af_];omega
    refine .seq (.rgo [] ?_ ?_ (h:=by simp only[go_sem,seval,hsw];rfl))
    ·(first|trivial|(simp;done)|(simp[ai_];done)|(simp[ai_];omega))
    refine .ret ⟨.inr rfl,?_⟩
    exact Out.plL (by simp only[Tryz.results220];rfl) (by simp only[ag_,go_sem,seval,hsw]<;>((have e:ge_ w=⟨3,[],ex ((w.take (bj_ w bz_).toNat).drop 1),ex (w.drop ((bj_ w bz_).toNat+2))⟩:=(by unfold ge_;rw[if_neg (by simpa[bi_]using h5),if_pos (by simpa[wIf]using h23),if_pos (by simpa[bz_]using h44)]));rw[e,cz_];simp[bz_,les,leV,ler,af_])) (h1:=by simp only[a8_,b4_,go_sem,seval,hsw]<;>(split<;>rfl)) (h3:=by simp only[go_sem,seval,hsw])
   ·refine .skip (.seq (.rgo [] ?_ ?_ (h:=by simp only[go_sem,seval,hsw];rfl)))
    ·(first|trivial|(simp;done)|(simp[ai_];done)|(simp[ai_];omega))
    refine .ret ⟨.inr rfl,?_⟩
    exact Out.plL (by simp only[Tryz.results220];rfl) (by simp only[ag_,go_sem,seval,hsw]<;>((have e:ge_ w=⟨3,[],E0,E0⟩:=(by unfold ge_;rw[if_neg (by simpa[bi_]using h5),if_pos (by simpa[wIf]using h23),if_neg (by simpa[bz_]using h44)]));rw[e,cz_];simp[les,leV,ler,af_,hc_,hp_,ha_,b0_,cl_])) (h1:=by simp only[a8_,b4_,go_sem,seval,hsw]<;>(split<;>rfl)) (h3:=by simp only[go_sem,seval,hsw])
  ·refine .seq (.rgo [] ?_ ?_ (h:=by simp only[go_sem,seval,hsw];rfl))
   ·(first|trivial|(simp;done)|(simp[ai_];done)|(simp[ai_];omega))
   refine .cB (fun h62=>?_) (fun h62=>?_) (hc:=by simp only[go_sem,seval,hsw];rfl) (hp:=by simp only[go_sem,seval,hsw])
   ·refine .seq (.rgDo [] ?_ ?_ (h:=by simp only[go_sem,seval,hsw,aw_ (show 0<w.length by simp at h62;omega)];rfl))
    ·simp only[T3_]at h62;omega
    refine .rgo [ab_ (d5_ (w.drop 2) (bu_ hw 2) (by simp;omega))] ?_ ?_ (h:=by simp only[go_sem,seval,hsw];rfl)
    ·simp only[T3_]at h62;simp[ai_,af_];omega
    refine .seq (.rgo [] ?_ ?_ (h:=by simp only[go_sem,seval,hsw];rfl))
    ·(first|trivial|(simp;done)|(simp[ai_];done)|(simp[ai_];omega))
    refine .ret ⟨.inr rfl,?_⟩
    exact Out.plL (by simp only[Tryz.results220];rfl) (by simp only[ag_,go_sem,seval,hsw]<;>((have e:ge_ w=⟨1,w.getD 0 [],ex (w.drop 2),E0⟩:=(by unfold ge_;rw[if_neg (by simpa[bi_]using h5),if_neg (by simpa[wIf]using h23),if_pos (by simp at h62;omega)]));rw[e,cz_];simp[les,leV,ler,af_,hc_,hp_,ha_,b0_,cl_])) (h1:=by simp only[a8_,b4_,go_sem,seval,hsw]<;>(split<;>rfl)) (h3:=by simp only[go_sem,seval,hsw])
   ·refine .skip (.seq (.rgo [] ?_ ?_ (h:=by simp only[go_sem,seval,hsw];rfl)))
    ·(first|trivial|(simp;done)|(simp[ai_];done)|(simp[ai_];omega))
    refine .ret ⟨.inr rfl,?_⟩
    exact Out.plL (by simp only[Tryz.results220];rfl) (by simp only[ag_,go_sem,seval,hsw]<;>((have e:ge_ w=B0:=(by unfold ge_;rw[if_neg (by simpa[bi_]using h5),if_neg (by simpa[wIf]using h23),if_neg (by simp at h62;omega)]));rw[e,cz_];simp[B0,les,leV,ler,af_,hc_,hp_,ha_,b0_,cl_])) (h1:=by simp only[a8_,b4_,go_sem,seval,hsw]<;>(split<;>rfl)) (h3:=by simp only[go_sem,seval,hsw])
end
section
set_option maxRecDepth 100000
set_option maxHeartbeats 8000000
theorem r6_ {w:List Str} (h:smW w):sm (ex w)=true:=by
 have hS:=((i_sm 500).1 1 ⟨w,false,0⟩ h).1
 unfold ex ej_
 split
 ·split
  ·exact(show sm E0=true by decide)
  ·exact hS
 ·exact(show sm E0=true by decide)
theorem n1_:∀(n:Nat) (l:Str) (c:Int) (t:List Tk),fk_ n l c=some t→∀x∈t,x.s.length≤l.length
 |0,l,c,t,h=>by simp[fk_]at h;subst h;intro x hx;cases hx
 |n+1,[],c,t,h=>by simp[fk_]at h;subst h;intro x hx;cases hx
 |n+1,y::l,c,t,h=>by
  simp only[fk_]at h
  split at h
  ·intro x hx;have:=n1_ n l _ t h x hx;simp only[T7_];omega
  ·split at h
   ·cases h
   ·obtain⟨u,hu,rfl⟩:=Option.map_eq_some_iff.1 h
    intro x hx
    rcases List.mem_cons.1 hx with rfl|hx
    ·simp only[List.length_take];omega
    ·have h1:=n1_ n _ _ u hu x hx
     rw[List.length_drop]at h1;omega
theorem mj_ (s:Str):smW (bg_ s)∧(bg_ s).length≤120:=by
 refine⟨?_,by unfold bg_;rw[List.length_map];exact wq_ s⟩
 unfold bg_
 cases h:a1_ s with
 |none=>intro w hw;simp at hw
 |some t=>
  unfold a1_ at h
  split at h
  ·cases h
  ·intro w hw
   simp only[Option.getD_some]at hw
   obtain⟨x,hx,rfl⟩:=List.mem_map.1 hw
   have:=n1_ _ _ _ _ h x hx
   omega
theorem ty_ {w:List Str} (h:smW w) (k:Nat):(w.getD k []).length≤281474976710656:=by
 rw[T8_]
 cases hk:w[k]? with
 |none=>simp
 |some x=>exact h x (List.mem_of_getElem? hk)
theorem ol_ (s:Sl):bv_ (sC s)=true:=by rw[br_];simp only[bv_,V.pure,ht_,Bool.and_self]
theorem ao0_ {w:List Str} (h:smW w):g6_ (rdS w)=true:=by
 have g:=ty_ h
 have e:=fun k=>r6_ (bu_ h k)
 have e0:sm E0=true:=by decide
 unfold rdS
 split
 ·simp only[g6_,e,e0,Bool.and_true,T5_,T3_];have:=g 1;have:=g 3;omega
 ·split
  ·simp only[g6_,e,e0,Bool.and_true];rfl
  ·split
   ·split
    ·simp only[g6_,e,r6_ (bu_ (hx_ h _) 1),Bool.and_true];rfl
    ·simp only[g6_,e0,Bool.and_true];rfl
   ·decide
theorem ahz_ {w:List Str} (h:smW w):smb (ge_ w)=true:=by
 have g:=ty_ h
 have e:=fun k=>r6_ (bu_ h k)
 have e0:sm E0=true:=by decide
 unfold ge_
 split
 ·simp only[smb,e,e0,Bool.and_true];rfl
 ·split
  ·split
   ·simp only[smb,e,r6_ (bu_ (hx_ h _) 1),Bool.and_true];rfl
   ·simp only[smb,e0,Bool.and_true];rfl
  ·split
   ·simp only[smb,e,e0,Bool.and_true,T3_];have:=g 0;omega
   ·decide
theorem aff_ {w:List Str} (h:(decide ((w.length:Int) > 5)&&w.getD 0 []==[108,101,116])=true):5<w.length∧w.getD 0 []=jm_:=by
 simp only[T5_,T3_,beq_iff_eq]at h;exact⟨by omega,h.2⟩
theorem aju_ {w:List Str} (h:(decide ((w.length:Int) > 5)&&w.getD 0 []==[108,101,116])=false):¬(5<w.length∧w.getD 0 []=jm_):=fun q=>by
 have:(decide ((w.length:Int) > 5)&&w.getD 0 []==[108,101,116])=true:=by simp only[T5_,T3_,beq_iff_eq];exact⟨by omega,q.2⟩
 rw[this]at h;cases h
theorem aw5_ (w:List Str) (c:Bool) (hc:c=true→w≠[]):(c=true→c=true∧(0:Int)<w.length∧((an_ w).getD 0 []).length=1)∧(c=true→(c=true∧1≤((an_ w).getD 0 []).length)∧({ v:=((an_ w).getD 0 []).getD 0 .no }:Eff)={ v:=.s (w.getD 0 []) }):=by
 cases w with
 |nil=>exact⟨fun h=>absurd rfl (hc h),fun h=>absurd rfl (hc h)⟩
 |cons x r=>simp[an_]
attribute [local go_sem] asO al_ aq_ mt_ ms_ bp_ ol_ in
theorem agu_ (w:List Str) (hw:smW w) (hl:w.length≤100000):ACall En 129 [.sl false (an_ w)] [] [.ag (sC (rdS w))] []:=by
 have hs:=tr_ w bp_
 simp only[bp_]at hs
 have hsw:IntKind.i64.wrap (bj_ w [115,97,121]+1)=bj_ w [115,97,121]+1:=aj_ (by omega) (by omega)
 have ht:0<bj_ w [115,97,121]→(bj_ w [115,97,121]+1).toNat=(bj_ w [115,97,121]).toNat+1:=fun h=>by omega
 refine aa_ [] Tryz.func129 Tryz.ntmps129 fun C=>?_
 refine .seq (.rgo [] ?_ ?_ (h:=by simp only[go_sem,seval,hsw];rfl))
 ·(first|trivial|(simp;done)|(simp[ai_];done)|(simp[ai_];omega))
 refine .seq (.rgo [] ?_ ?_ (h:=by simp only[go_sem,seval,hsw];rfl))
 ·(first|trivial|(simp;done)|(simp[ai_];done)|(simp[ai_];omega))
 refine .seq (.block (.seq (.rgSo [12] [asO En { v:=.s (w.getD 0 []) }] ?_ ?_ (h:=by simp only[go_sem,seval,hsw];rfl))))
 ·exact aw5_ w _ (fun h e=>by simp[e]at h)
 refine .cB (fun h5=>?_) (fun h5=>?_) (hc:=by simp only[go_sem,seval,hsw];rfl) (hp:=by simp only[go_sem,seval,hsw])
 ·refine .seq (.rgDo [] ?_ ?_ (h:=by simp only[go_sem,seval,hsw,aw_ (show 1<w.length by have:=aff_ h5;omega),aw_ (show 3<w.length by have:=aff_ h5;omega)];rfl))
  ·have:=aff_ h5;(first|omega|(simp[ai_,a7_];omega))
  refine .rgo [ab_ (d5_ (w.drop 5) (bu_ hw 5) (by simp;omega))] ?_ ?_ (h:=by simp only[go_sem,seval,hsw];rfl)
  ·have:=aff_ h5;simp[ai_,af_];omega
  refine .seq (.rgo [] ?_ ?_ (h:=by simp only[go_sem,seval,hsw];rfl))
  ·(first|trivial|(simp;done)|(simp[ai_];done)|(simp[ai_];omega))
  refine .ret ⟨.inr rfl,?_⟩
  exact Out.plL (by simp only[Tryz.results129];rfl) (by simp only[ag_,go_sem,seval,hsw]<;>((have e:rdS w=⟨1,w.getD 1 [],w.getD 3 [],ex (w.drop 5),E0⟩:=(by unfold rdS;rw[if_pos (aff_ h5)]));rw[e,br_];simp[les,leV,ler,af_,hc_,hp_,ha_,b0_,cl_])) (h1:=by simp only[a8_,b4_,go_sem,seval,hsw]<;>(split<;>rfl)) (h3:=by simp only[go_sem,seval,hsw])
 ·refine .seq (.rgSo [38] [asO En { v:=.s (w.getD 0 []) }] ?_ ?_ (h:=by simp only[go_sem,seval,hsw];rfl))
  ·exact ah3_ w
  refine .cB (fun h31=>?_) (fun h31=>?_) (hc:=by simp only[go_sem,seval,hsw];rfl) (hp:=by simp only[go_sem,seval,hsw])
  ·refine .seq (.rgo [] ?_ ?_ (h:=by simp only[go_sem,seval,hsw];rfl))
   ·(first|trivial|(simp;done)|(simp[ai_];done)|(simp[ai_];omega))
   refine .rgo [ab_ (d5_ (w.drop 1) (bu_ hw 1) (by simp;omega))] ?_ ?_ (h:=by simp only[go_sem,seval,hsw];rfl)
   ·simp only[T5_,T3_]at h31;simp[ai_,af_];omega
   refine .seq (.rgo [] ?_ ?_ (h:=by simp only[go_sem,seval,hsw];rfl))
   ·(first|trivial|(simp;done)|(simp[ai_];done)|(simp[ai_];omega))
   refine .ret ⟨.inr rfl,?_⟩
   exact Out.plL (by simp only[Tryz.results129];rfl) (by simp only[ag_,go_sem,seval,hsw]<;>((have e:rdS w=⟨2,[],[],ex (w.drop 1),E0⟩:=(by unfold rdS;rw[if_neg (aju_ h5),if_pos (by simpa[bp_]using h31)]));rw[e,br_];simp[les,leV,ler,af_,hc_,hp_,ha_,b0_,cl_])) (h1:=by simp only[a8_,b4_,go_sem,seval,hsw]<;>(split<;>rfl)) (h3:=by simp only[go_sem,seval,hsw])
  ·refine .seq (.rgSo [56] [asO En { v:=.s (w.getD 0 []) }] ?_ ?_ (h:=by simp only[go_sem,seval,hsw];rfl))
   ·exact ah3_ w
   refine .cB (fun h49=>?_) (fun h49=>?_) (hc:=by simp only[go_sem,seval,hsw];rfl) (hp:=by simp only[go_sem,seval,hsw])
   ·refine .seq (.rgo [] ?_ ?_ (h:=by simp only[go_sem,seval,hsw];rfl))
    ·(first|trivial|(simp;done)|(simp[ai_];done)|(simp[ai_];omega))
    refine .seq (.rgo [ab_ (aah_ w bp_ (by omega))] ?_ ?_ (h:=by simp only[go_sem,seval,hsw];rfl))
    ·(first|trivial|(simp;done)|(simp[ai_];done)|(simp[ai_];omega))
    refine .seq (.rgo [] ?_ ?_ (h:=by simp only[go_sem,seval,hsw];rfl))
    ·(first|trivial|(simp;done)|(simp[ai_];done)|(simp[ai_];omega))
    refine .cB (fun h63=>?_) (fun h63=>?_) (hc:=by simp only[go_sem,seval,hsw];rfl) (hp:=by simp only[go_sem,seval,hsw])
    ·refine .seq (.rgo [ab_ (d5_ ((w.take (bj_ w bp_).toNat).drop 1) (bu_ (hx_ hw _) 1) (by simp;omega))] ?_ ?_ (h:=by simp only[go_sem,seval,hsw];rfl))
     ·simp only[T3_]at h63;simp[ai_];omega
     refine .rgo [ab_ (d5_ (w.drop ((bj_ w bp_).toNat+1)) (bu_ hw _) (by simp;omega))] ?_ ?_ (h:=by simp only[go_sem,seval,hsw,ht (by simpa using h63)];rfl)
     ·simp only[T3_]at h63;simp[ai_,af_];omega
     refine .seq (.rgo [] ?_ ?_ (h:=by simp only[go_sem,seval,hsw];rfl))
     ·(first|trivial|(simp;done)|(simp[ai_];done)|(simp[ai_];omega))
     refine .ret ⟨.inr rfl,?_⟩
     exact Out.plL (by simp only[Tryz.results129];rfl) (by simp only[ag_,go_sem,seval,hsw]<;>((have e:rdS w=⟨3,[],[],ex ((w.take (bj_ w bp_).toNat).drop 1),ex (w.drop ((bj_ w bp_).toNat+1))⟩:=(by unfold rdS;rw[if_neg (aju_ h5),if_neg (by simpa[bp_]using h31),if_pos (by simpa[dg_]using h49),if_pos (by simpa[bp_]using h63)]));rw[e,br_];simp[bp_,les,leV,ler,af_])) (h1:=by simp only[a8_,b4_,go_sem,seval,hsw]<;>(split<;>rfl)) (h3:=by simp only[go_sem,seval,hsw])
    ·refine .skip (.seq (.rgo [] ?_ ?_ (h:=by simp only[go_sem,seval,hsw];rfl)))
     ·(first|trivial|(simp;done)|(simp[ai_];done)|(simp[ai_];omega))
     refine .ret ⟨.inr rfl,?_⟩
     exact Out.plL (by simp only[Tryz.results129];rfl) (by simp only[ag_,go_sem,seval,hsw]<;>((have e:rdS w=⟨3,[],[],E0,E0⟩:=(by unfold rdS;rw[if_neg (aju_ h5),if_neg (by simpa[bp_]using h31),if_pos (by simpa[dg_]using h49),if_neg (by simpa[bp_]using h63)]));rw[e,br_];simp[les,leV,ler,af_,hc_,hp_,ha_,b0_,cl_])) (h1:=by simp only[a8_,b4_,go_sem,seval,hsw]<;>(split<;>rfl)) (h3:=by simp only[go_sem,seval,hsw])
   ·refine .skip (.seq (.rgo [] ?_ ?_ (h:=by simp only[go_sem,seval,hsw];rfl)))
    ·(first|trivial|(simp;done)|(simp[ai_];done)|(simp[ai_];omega))
    refine .ret ⟨.inr rfl,?_⟩
    exact Out.plL (by simp only[Tryz.results129];rfl) (by simp only[ag_,go_sem,seval,hsw]<;>((have e:rdS w=S0:=(by unfold rdS;rw[if_neg (aju_ h5),if_neg (by simpa[bp_]using h31),if_neg (by simpa[dg_]using h49)]));rw[e,br_];simp[S0,les,leV,ler,af_,hc_,hp_,ha_,b0_,cl_])) (h1:=by simp only[a8_,b4_,go_sem,seval,hsw]<;>(split<;>rfl)) (h3:=by simp only[go_sem,seval,hsw])
theorem t5_ {line:Str} (h:¬((a1_ line).isSome=true∧sok (rdS (bg_ line))=true∧stxt (rdS (bg_ line))=line)):ci_ line=none:=by
 unfold ci_ bg_ at *
 cases ht:a1_ line with
 |none=>rfl
 |some ts=>
  rw[ht]at h
  simp only[Option.getD_some]at h
  dsimp only
  rw[if_neg]
  rintro⟨h1,h2⟩
  exact h ⟨rfl,h1,by unfold stxt;rw[if_pos h1];exact h2⟩
theorem u4_ {line:Str} (h:(a1_ line).isSome=true) (h1:sok (rdS (bg_ line))=true) (h2:stxt (rdS (bg_ line))=line):ci_ line=some (rdS (bg_ line)):=by
 unfold ci_ bg_ at *
 cases ht:a1_ line with
 |none=>rw[ht]at h;cases h
 |some ts=>
  rw[ht]at h1 h2
  simp only[Option.getD_some]at h1 h2 ⊢
  rw[if_pos ⟨h1,by unfold stxt at h2;rw[if_pos h1]at h2;exact h2⟩]
attribute [local go_sem] aq_ ol_ br_ in
theorem r0_ (line:Str) (hl:line.length≤281474976710656):ACall En 73 [.s line] [] [.ag (sC ((ci_ line).getD S0)),.b (ci_ line).isSome] []:=by
 obtain⟨w1,w2⟩:=mj_ line
 have hs:=ao0_ w1
 refine aa_ [] Tryz.func73 Tryz.ntmps73 fun C=>?_
 refine .seq (.rg [] ?_)
 refine .seq (.rg [ab_ (yi_ line hl)] ?_)
 refine .seq (.rg [ab_ (agu_ (bg_ line) w1 (by omega))] ?_)
 refine .seq (.seq (.rg [ab_ (qi_ (rdS (bg_ line)) hs),ab_ (acv_ (rdS (bg_ line)) hs)] ?_))
 refine .cB (fun h26=>?_) (fun h26=>?_)
 ·refine .seq (.rg [] ?_)
  refine .ret ⟨.inr rfl,?_⟩
  exact Out.plL (by simp only[Tryz.results73];rfl) (by simp only[ag_,go_sem,seval]<;>(rw[t5_ (by intro q;simp[q.1,q.2.1,q.2.2]at h26)];simp[S0,les,leV,ler,af_,hc_,hp_,ha_,b0_,cl_]))
 ·refine .skip (.seq (.rg [] ?_))
  refine .ret ⟨.inr rfl,?_⟩
  exact Out.plL (by simp only[Tryz.results73];rfl) (by simp only[ag_,go_sem,seval]<;>(rw[u4_ (by simp at h26;exact h26.1.1) (by simp at h26;exact h26.1.2) (by simp at h26;exact h26.2)];simp[les,leV,ler,af_]))
theorem vz_ {line:Str} (h:¬((a1_ line).isSome=true∧bok (ge_ (bg_ line))=true∧btxt (ge_ (bg_ line))=line)):e2_ line=none:=by
 unfold e2_ bg_ at *
 cases ht:a1_ line with
 |none=>rfl
 |some ts=>
  rw[ht]at h
  simp only[Option.getD_some]at h
  dsimp only
  rw[if_neg]
  rintro⟨h1,h2⟩
  exact h ⟨rfl,h1,by unfold btxt;rw[if_pos h1];exact h2⟩
theorem vi_ {line:Str} (h:(a1_ line).isSome=true) (h1:bok (ge_ (bg_ line))=true) (h2:btxt (ge_ (bg_ line))=line):e2_ line=some (ge_ (bg_ line)):=by
 unfold e2_ bg_ at *
 cases ht:a1_ line with
 |none=>rw[ht]at h;cases h
 |some ts=>
  rw[ht]at h1 h2
  simp only[Option.getD_some]at h1 h2 ⊢
  rw[if_pos ⟨h1,by unfold btxt at h2;rw[if_pos h1]at h2;exact h2⟩]
attribute [local go_sem] aq_ pw_ cz_ in
theorem aev_ (line:Str) (hl:line.length≤281474976710656):ACall En 156 [.s line] [] [.ag (bC ((e2_ line).getD B0)),.b (e2_ line).isSome] []:=by
 obtain⟨w1,w2⟩:=mj_ line
 have hs:=ahz_ w1
 refine aa_ [] Tryz.func156 Tryz.ntmps156 fun C=>?_
 refine .seq (.rg [] ?_)
 refine .seq (.rg [ab_ (yi_ line hl)] ?_)
 refine .seq (.rg [ab_ (agr_ (bg_ line) w1 (by omega))] ?_)
 refine .seq (.seq (.rg [ab_ (q4_ (ge_ (bg_ line)) hs),ab_ (ac2_ (ge_ (bg_ line)) hs)] ?_))
 refine .cB (fun h26=>?_) (fun h26=>?_)
 ·refine .seq (.rg [] ?_)
  refine .ret ⟨.inr rfl,?_⟩
  exact Out.plL (by simp only[Tryz.results156];rfl) (by simp only[ag_,go_sem,seval]<;>(rw[vz_ (by intro q;simp[q.1,q.2.1,q.2.2]at h26)];simp[B0,les,leV,ler,af_,hc_,hp_,ha_,b0_,cl_]))
 ·refine .skip (.seq (.rg [] ?_))
  refine .ret ⟨.inr rfl,?_⟩
  exact Out.plL (by simp only[Tryz.results156];rfl) (by simp only[ag_,go_sem,seval]<;>(rw[vi_ (by simp at h26;exact h26.1.1) (by simp at h26;exact h26.1.2) (by simp at h26;exact h26.2)];simp[les,leV,ler,af_]))
end
section
set_option maxRecDepth 100000
set_option maxHeartbeats 8000000
theorem c6_ {w:List Str} {o:Option Nat} {c:UInt8} (h:(decide (oN o<0)||!(atI w (oN o)==[c]))=false):o=some (nx o)∧w.getD (nx o) []=[c]∧nx o<w.length∧oN o=(nx o:Int):=by
 cases o with
 |none=>exact absurd h (by simp[oN])
 |some b=>
  have h':(decide ((b:Int)<0)||!(atI w (b:Int)==[c]))=false:=h
  rw[jv_,Bool.or_eq_false_iff,Bool.not_eq_false',beq_iff_eq]at h'
  exact⟨rfl,h'.2,h2_ (by show w.getD b []≠[];rw[h'.2];simp),rfl⟩
theorem axg_ {n:Nat} {w:List Str} {k:Nat} {d:Int} {b:Nat} (h:(sLp n w k 2 d).2=some b) (h2:w.getD b []=[60]):sL1 (n+1) w k d=(.mk 3 0 [60] [(sLp n w k 2 d).1,(sLp n w (b+1) 2 d).1],(sLp n w (b+1) 2 d).2):=by rw[sL1,h];dsimp only;rw[if_pos h2]
theorem awt_ {n:Nat} {w:List Str} {k:Nat} {d:Int} (h:(decide (oN (sLp n w k 2 d).2<0)||!(atI w (oN (sLp n w k 2 d).2)==[60]))=true):sL1 (n+1) w k d=sLp n w k 2 d:=by
 rw[sL1]
 generalize sLp n w k 2 d=o at *
 obtain⟨e,o⟩:=o
 cases o with
 |none=>rfl
 |some b=>
  have h':(decide ((b:Int)<0)||!(atI w (b:Int)==[60]))=true:=h
  rw[jv_,decide_eq_false (by omega),Bool.false_or,Bool.not_eq_true',beq_eq_false_iff_ne]at h'
  dsimp only;rw[if_neg h']
attribute [local go_sem] al_ aq_ gu_ in
theorem ac0_ (w:List Str) (hw:smW w) (hl:w.length≤1000000) (n:Nat) (ih:∀j,j<n+1→LpOk w j):L1Ok w (n+1):=fun k d d0 d5 hk hn=>by
 have A:=ih n (by omega) k 2 d d0 d5 (by omega) (by omega) hk (by omega)
 have L:=fun(h:nx (sLp n w k 2 d).2<w.length∧k+1≤nx (sLp n w k 2 d).2)=>ih n (by omega) (nx (sLp n w k 2 d).2+1) 2 d d0 d5 (by omega) (by omega) (by omega) (by omega)
 have hB:=((vd_ w hw n).2.1 k 2 d).2
 refine aa_ [] Tryz.func238 Tryz.ntmps238 fun C=>?_
 refine .seq (.rgo [] ?_ ?_)
 ·(first|trivial|(simp;done)|exact⟨(c6_ h26).2.2.1,hB _ (c6_ h26).1 |>.1⟩)
 refine .seq (.rgo [ab_ A] ?_ ?_)
 ·(first|trivial|(simp;done)|exact⟨(c6_ h26).2.2.1,hB _ (c6_ h26).1 |>.1⟩)
 refine .seq (.seq (.rgo [ab_ (ky_ w (oN (sLp n w k 2 d).2))] ?_ ?_))
 ·(first|trivial|(simp;done)|exact⟨(c6_ h26).2.2.1,hB _ (c6_ h26).1 |>.1⟩)
 refine .cB (fun h26=>?_) (fun h26=>?_)
 ·refine .seq (.rgo [] ?_ ?_)
  ·(first|trivial|(simp;done)|exact⟨(c6_ h26).2.2.1,hB _ (c6_ h26).1 |>.1⟩)
  refine .ret ⟨.inr rfl,?_⟩
  exact Out.plL (by simp only[Tryz.results238];rfl) (by simp only[ag_,go_sem,seval]<;>(rw[awt_ h26];exact⟨⟨rfl,rfl,rfl,af_ _⟩,rfl⟩))
 ·refine .skip (.seq (.rgo [a4_ (nx (sLp n w k 2 d).2<w.length∧k+1≤nx (sLp n w k 2 d).2) L] ?_ ?_ (h:=by simp only[go_sem,seval,(c6_ h26).2.2.2,id_ (nx (sLp n w k 2 d).2+1) (by have:=(c6_ h26).2.2.1;omega),show((nx (sLp n w k 2 d).2:Int)+1)=((nx (sLp n w k 2 d).2+1:Nat):Int)from rfl];rfl)))
  ·(first|trivial|(simp;done)|exact⟨(c6_ h26).2.2.1,hB _ (c6_ h26).1 |>.1⟩)
  refine .seq (.rgo [] ?_ ?_)
  ·(first|trivial|(simp;done)|exact⟨(c6_ h26).2.2.1,hB _ (c6_ h26).1 |>.1⟩)
  refine .ret ⟨.inr rfl,?_⟩
  exact Out.plL (by simp only[Tryz.results238];rfl) (by simp only[ag_,go_sem,seval]<;>(rw[axg_ (c6_ h26).1 (c6_ h26).2.1];simp[E.kind,E.n,E.s,E.kids,eR,gu_,les,leV,ler,af_]))
theorem ahi_ (w:List Str) (hw:smW w) (hl:w.length≤1000000):∀n,afi_ w n∧LpOk w n∧L1Ok w n:=fun n=>by
 induction n using Nat.strongRecOn with
 |_ n ih=>
  cases n with
  |zero=>exact⟨fun k d _ _ _ hn=>absurd hn (by omega),fun k t d _ _ _ _ _ hn=>absurd hn (by omega),fun k d _ _ _ hn=>absurd hn (by omega)⟩
  |succ n=>exact⟨akd_ w hw hl n (fun j hj=>(ih j hj).2.2),aml_ w hw hl n (fun j hj=>(ih j hj).1) (fun j hj=>(ih j hj).2.1),ac0_ w hw hl n (fun j hj=>(ih j hj).2.1)⟩
end
section
set_option maxRecDepth 100000
set_option maxHeartbeats 4000000
attribute [local go_sem] al_ aq_ in
theorem amg_ (a b:List Str) (ha:a.length≤1000000000000) (hb:b.length≤1000000000000):ACall En 239 [.sl false (an_ a),.sl false (an_ b)] [] [.b (a==b)] []:=by
 refine aa_ [] Tryz.func239 Tryz.ntmps239 fun C=>?_
 refine .seq (.rg [] ?_)
 refine .seq (.seq (.rg [] ?_))
 refine .cB (fun h10=>?_) (fun h10=>?_)
 ·refine .seq (.rg [] ?_)
  refine .ret ⟨.inr rfl,?_⟩
  exact Out.pl (by simp only[Tryz.results239];rfl) (by simp only[ag_,go_sem,seval]<;>(have:a≠b:=(fun e=>by simp[e]at h10);simp[this]))
 ·refine .skip (.seq (.seq (.rg [] ?_)))
  refine .block (.loopK (fun k:Nat=>⟨[.sl false (an_ a),.sl false (an_ b),.no,.no,.no,.i .i64 k,.no,.no,.no,.no,.no,.no,.no,.no,.no,.no,.no,.no,.no,.no,.no,.no,.no,.no,.no,.no],ak_ [],us []⟩) (fun k:Nat=>k≤a.length∧a.take k=b.take k) (fun k:Nat=>a.length - k) (0) ?_ ?_ (fun k hI=>?_))
  ·exact⟨Nat.zero_le _,rfl⟩
  ·refine Can.wh ?_;first|trivial|(simp)
  refine .seq (.seq (.rg [] ?_))
  refine .cB (fun h14=>?_) (fun h14=>?_)
  ·refine .skip (.seq (.block (.seq (.rgDo [] ?_ ?_ (h:=by simp only[go_sem,seval,aw_ (show k<a.length by simpa using h14),aw_ (show k<b.length by simp at h14 h10;omega)];rfl)))))
   ·simp at h14 h10;simp;omega
   refine .cB (fun h25=>?_) (fun h25=>?_)
   ·refine .seq (.rg [] ?_)
    refine .ret ⟨.inr rfl,?_⟩
    exact Out.pl (by simp only[Tryz.results239];rfl) (by simp only[ag_,go_sem,seval]<;>(have h2:a.getD k []≠b.getD k []:=(by rw[Bool.not_eq_true',beq_eq_false_iff_ne]at h25;exact h25);have:a≠b:=(fun e=>h2 (by rw[e]));simp[this]))
   ·refine .skip (.rg [] ?_)
    refine Exists.intro (k+1) ⟨?_,?_,?_⟩
    ·simp only[T3_]at h14;simp at h10;exact⟨by omega,atr_ (d:=[]) (by omega) (by omega) hI.2 (by simpa using h25)⟩
    ·simp at h14;omega
    refine Can.wh ?_;first|trivial|(rw[aj_ (by simp at h14;omega) (by simp at h14;omega)];simp)
  ·refine .exit (.seq (.rg [] ?_))
   refine .ret ⟨.inr rfl,?_⟩
   exact Out.pl (by simp only[Tryz.results239];rfl) (by simp only[ag_,go_sem,seval]<;>(simp only[T4_]at h14;simp at h10;have q:=hI.2;rw[T1_ (by omega),T1_ (by omega)]at q;simp[q]))
attribute [local go_sem] al_ aq_ gu_ in
theorem d4_ (w:List Str) (hw:smW w) (hl:w.length≤1000000):ACall En 174 [.sl false (an_ w)] [] [.ag (eC (ex w)),.b (jj_ w)] []:=by
 have hR:=fun(h:w.length≤40)=>(ahi_ w hw hl 500).2.2 0 5 (by decide) (by decide) (by omega) (by omega)
 have hS:=((vd_ w hw 500).2.2.2 0 5).1
 have hE:ej_ w=if w.length≤40 then(if (!((sL1 500 w 0 5).2==some w.length)||!eok (sL1 500 w 0 5).1||!(wds (sL1 500 w 0 5).1 1==w))then none else some (sL1 500 w 0 5).1)else none:=(anz_ w).trans rfl
 generalize sL1 500 w 0 5=q at *
 have hq:(!(q.2==some w.length))=!(oN q.2==(w.length:Int)):=by
  cases q.2 with
  |none=>simp[oN]
  |some b=>simp only[oN];congr 1;rw[Bool.eq_iff_iff];simp;omega
 rw[hq]at hE
 have n1:decide ((w.length:Int) > 40)=true→ej_ w=none:=fun h=>by rw[hE,if_neg (by simp at h;omega)]
 have n2:decide ((w.length:Int) > 40)=false→(!(oN q.2==(w.length:Int))||!eok q.1||!(wds q.1 1==w))=true→ej_ w=none:=fun h h2=>by rw[hE,if_pos (by simp at h;omega),if_pos h2]
 have n3:decide ((w.length:Int) > 40)=false→(!(oN q.2==(w.length:Int))||!eok q.1||!(wds q.1 1==w))=false→ej_ w=some q.1:=fun h h2=>by rw[hE,if_pos (by simp at h;omega),h2];rfl
 refine aa_ [] Tryz.func174 Tryz.ntmps174 fun C=>?_
 refine .seq (.rg [] ?_)
 refine .seq (.seq (.rg [] ?_))
 refine .cB (fun h8=>?_) (fun h8=>?_)
 ·refine .seq (.rg [] ?_)
  refine .ret ⟨.inr rfl,?_⟩
  exact Out.plL (by simp only[Tryz.results174];rfl) (by simp only[ag_,go_sem,seval]<;>(simp[ex,jj_,n1 h8,E0,E.kind,E.n,E.s,E.kids,eR,ler]))
 ·refine .skip (.seq (.rg [ab_ (hR (by simp at h8;omega))] ?_))
  refine .seq (.seq (.rg [ab_ (in_ q.1 hS),a4_ (eok q.1=true) (fun h=>ho_ 5 q.1 1 (ay_ h) hS (by have:many q.1 ((5:Nat):Int)≤12:=kg_ h;omega) (by decide) (by decide)),a4_ (eok q.1=true) (fun h=>amg_ (wds q.1 1) w (by have:=(bk_ h 1).2.1;omega) (by omega) )] ?_))
  refine .cB (fun h30=>?_) (fun h30=>?_)
  ·refine .seq (.rg [] ?_)
   refine .ret ⟨.inr rfl,?_⟩
   exact Out.plL (by simp only[Tryz.results174];rfl) (by simp only[ag_,go_sem,seval]<;>(simp[ex,jj_,n2 h8 h30,E0,E.kind,E.n,E.s,E.kids,eR,ler]))
  ·refine .skip (.seq (.rg [] ?_))
   refine .ret ⟨.inr rfl,?_⟩
   exact Out.plL (by simp only[Tryz.results174];rfl) (by simp only[ag_,go_sem,seval]<;>(simp[ex,jj_,n3 h8 h30,af_]))
end
section
set_option maxRecDepth 100000
set_option maxHeartbeats 4000000
attribute [local go_sem] hs_ ft_ in
theorem ac8_ (s:Str) (hs:s.length≤281474976710656):ACall En 107 [.s s] [] [.sl false (an_ (bg_ s)),.b (a1_ s).isSome] []:=by
 have T:=u0_ s hs
 have hb:=wq_ s
 unfold bg_
 generalize (a1_ s).getD []=ts at *
 refine aa_ [] Tryz.func107 Tryz.ntmps107 fun C=>?_
 refine .seq (.rgo [] ?_ ?_)
 ·(first|trivial|(simp;done)|(simp only[T3_]at h17;simp[an_,a7_];omega))
 refine .seq (.rgo [ab_ T] ?_ ?_)
 ·(first|trivial|(simp;done)|(simp only[T3_]at h17;simp[an_,a7_];omega))
 refine .seq (.rgo [] ?_ ?_)
 ·(first|trivial|(simp;done)|(simp only[T3_]at h17;simp[an_,a7_];omega))
 refine .seq (.seq (.rgo [] ?_ ?_))
 ·(first|trivial|(simp;done)|(simp only[T3_]at h17;simp[an_,a7_];omega))
 refine .block (.loopK (fun k:Nat=>⟨[.no,.no,.no,.no,.sl false (tkR ts),.b (a1_ s).isSome,.ow 23 1 0 k,.i .i64 k,.no,.no,.no,.no,.no,.no,.no,.no,.no,.no,.no,.no,.no,.no,.no,.no,.no,.no,.no,.no,.no,.no],ak_ [(23,⟨9,1,an_ ((ts.take k).map (·.s))⟩)],us [23]⟩) (fun k:Nat=>k≤ts.length) (fun k:Nat=>ts.length - k) (0) ?_ ?_ (fun k hI=>?_))
 ·simp
 ·refine Can.trans (Can.ownSlot 6 23 9 1 (by simp only[go_sem,seval]<;>rfl) (by simp only[go_sem,seval]) (by simp only[go_sem,seval]<;>rfl)) ?_
  refine Can.wk ?_ ?_
  ·first|trivial|((try simp))
  ·first|trivial|((try simp[an_]))
 refine .seq (.seq (.rgo [] ?_ ?_))
 ·(first|trivial|(simp;done)|(simp only[T3_]at h17;simp[an_,a7_];omega))
 refine .cB (fun h17=>?_) (fun h17=>?_)
 ·refine .skip (.seq (.block (.rgo [] ?_ ?_ (h:=by simp only[go_sem,seval,s5_ (show k<ts.length by simpa using h17)];rfl))))
  ·(first|trivial|(simp;done)|(simp only[T3_]at h17;simp[an_,a7_];omega))
  refine .rgo [] ?_ ?_
  ·(first|trivial|(simp;done)|(simp only[T3_]at h17;simp[an_,a7_];omega))
  refine Exists.intro (k+1) ⟨?_,?_,?_⟩
  ·simp at h17;omega
  ·simp at h17;omega
  refine Can.trans (Can.sX 37 23) ?_
  refine Can.wk ?_ ?_
  ·first|trivial|(rw[aj_ (by simp at h17;omega) (by simp at h17;omega)];(try simp))
  ·first|trivial|(simp only[T3_]at h17;rw[List.take_add_one,T6_ (show k<ts.length by omega)];simp[-List.map_take, -List.take_append_getElem,an_,T8_,T6_ (show k<ts.length by omega)])
 ·refine .exit (.seq (.rgo [] ?_ ?_))
  ·(first|trivial|(simp;done)|(simp only[T3_]at h17;simp[an_,a7_];omega))
  refine .fX 23 ?_
  refine .ret ⟨.inr rfl,?_⟩
  exact Out.plL (by simp only[Tryz.results107];rfl) (by simp only[ag_,go_sem,seval]<;>(simp at h17;rw[T1_ h17,if_pos (by simpa using hI)];simp[peel,leV,af_,an_,T1_,h17]))
attribute [local go_sem] al_ aq_ in
theorem as3_ (l:List Str) (hl:l.length<4611686018427387904):ACall En 175 [.sl false (an_ l)] [] [.i .i64 (bj_ l bp_)] []:=by
 refine aa_ [] Tryz.func175 Tryz.ntmps175 fun C=>?_
 refine .seq (.rg [] ?_)
 refine .seq (.seq (.rg [] ?_))
 refine .block (.loopK (fun k:Nat=>⟨[.sl false (an_ l),.no,.no,.i .i64 k,.no,.no,.no,.no,.no,.no,.no,.no,.no,.no,.no,.no],ak_ [],us []⟩) (fun k:Nat=>k≤l.length∧∀x∈l.take k,x≠bp_) (fun k:Nat=>l.length - k) (0) ?_ ?_ (fun k hI=>?_))
 ·simp
 ·refine Can.wh ?_;first|trivial|(simp)
 refine .seq (.seq (.rg [] ?_))
 refine .cB (fun h7=>?_) (fun h7=>?_)
 ·refine .skip (.seq (.block (.seq (.rgo [] ?_ ?_ (h:=by simp only[go_sem,seval,aw_ (show k<l.length by simpa using h7)];rfl)))))
  ·simp at h7;simp[al_,h7]
  refine .cB (fun h14=>?_) (fun h14=>?_)
  ·refine .seq (.rg [] ?_)
   refine .ret ⟨.inr rfl,?_⟩
   exact Out.pl (by simp only[Tryz.results175];rfl) (by simp only[ag_,go_sem,seval]<;>(simp at h7;obtain⟨g1,g2⟩:=un_ h7 hI.2 (eq_of_beq h14);unfold bj_;rw[if_pos g1,g2]))
  ·refine .skip (.rg [] ?_)
   refine Exists.intro (k+1) ⟨?_,?_,?_⟩
   ·simp at h7;refine⟨by omega,fun x hx=>?_⟩;rw[List.take_add_one,List.mem_append,T6_ h7]at hx;rcases hx with hx|hx;exact hI.2 x hx;simp at hx;subst hx;simp[T8_,T6_ h7]at h14;exact h14
   ·simp at h7;omega
   refine Can.wh ?_;first|trivial|(rw[aj_ (by omega) (by omega)];simp)
 ·refine .exit (.seq (.rg [] ?_))
  refine .ret ⟨.inr rfl,?_⟩
  exact Out.pl (by simp only[Tryz.results175];rfl) (by simp only[ag_,go_sem,seval]<;>(simp at h7;have:¬bp_∈l:=fun hm=>hI.2 bp_ (by rw[T1_ h7];exact hm) rfl;simp[bj_,this]))
attribute [local go_sem] al_ aq_ in
theorem ako_ (l:List Str) (hl:l.length<4611686018427387904):ACall En 244 [.sl false (an_ l)] [] [.i .i64 (bj_ l bz_)] []:=by
 refine aa_ [] Tryz.func244 Tryz.ntmps244 fun C=>?_
 refine .seq (.rg [] ?_)
 refine .seq (.seq (.rg [] ?_))
 refine .block (.loopK (fun k:Nat=>⟨[.sl false (an_ l),.no,.no,.i .i64 k,.no,.no,.no,.no,.no,.no,.no,.no,.no,.no,.no,.no],ak_ [],us []⟩) (fun k:Nat=>k≤l.length∧∀x∈l.take k,x≠bz_) (fun k:Nat=>l.length - k) (0) ?_ ?_ (fun k hI=>?_))
 ·simp
 ·refine Can.wh ?_;first|trivial|(simp)
 refine .seq (.seq (.rg [] ?_))
 refine .cB (fun h7=>?_) (fun h7=>?_)
 ·refine .skip (.seq (.block (.seq (.rgo [] ?_ ?_ (h:=by simp only[go_sem,seval,aw_ (show k<l.length by simpa using h7)];rfl)))))
  ·simp at h7;simp[al_,h7]
  refine .cB (fun h14=>?_) (fun h14=>?_)
  ·refine .seq (.rg [] ?_)
   refine .ret ⟨.inr rfl,?_⟩
   exact Out.pl (by simp only[Tryz.results244];rfl) (by simp only[ag_,go_sem,seval]<;>(simp at h7;obtain⟨g1,g2⟩:=un_ h7 hI.2 (eq_of_beq h14);unfold bj_;rw[if_pos g1,g2]))
  ·refine .skip (.rg [] ?_)
   refine Exists.intro (k+1) ⟨?_,?_,?_⟩
   ·simp at h7;refine⟨by omega,fun x hx=>?_⟩;rw[List.take_add_one,List.mem_append,T6_ h7]at hx;rcases hx with hx|hx;exact hI.2 x hx;simp at hx;subst hx;simp[T8_,T6_ h7]at h14;exact h14
   ·simp at h7;omega
   refine Can.wh ?_;first|trivial|(rw[aj_ (by omega) (by omega)];simp)
 ·refine .exit (.seq (.rg [] ?_))
  refine .ret ⟨.inr rfl,?_⟩
  exact Out.pl (by simp only[Tryz.results244];rfl) (by simp only[ag_,go_sem,seval]<;>(simp at h7;have:¬bz_∈l:=fun hm=>hI.2 bz_ (by rw[T1_ h7];exact hm) rfl;simp[bj_,this]))
end
section
set_option maxRecDepth 100000
set_option maxHeartbeats 8000000
theorem zh_ (w:List Str) (k:Nat) (c:Bool) (hc:c=true→k<w.length):(c=true→c=true∧(k:Int)<w.length∧((an_ w).getD k []).length=1)∧(c=true→(c=true∧1≤((an_ w).getD k []).length)∧({ v:=((an_ w).getD k []).getD 0 .no }:Eff)={ v:=.s (w.getD k []) }):=by
 have e:=fun h=>aw_ (l:=w) (hc h)
 exact⟨fun h=>⟨h,by have:=hc h;omega,by rw[e h];rfl⟩,fun h=>⟨⟨h,by rw[e h];exact Nat.le_refl _⟩,by rw[e h];rfl⟩⟩
theorem gc_ {w:List Str} (h:((w.length:Int)==0)=false):0<w.length:=by
 rw[beq_eq_false_iff_ne]at h;omega
theorem yk_ {w:List Str} {b:Bool} (h:(w.getD 0 []==[108,101,116]&&decide ((w.length:Int) > 5)&&w.getD 2 []==[58]&&w.getD 4 []==[61])=b):(b=true↔(w.getD 0 []=jm_∧5<w.length∧w.getD 2 []=bz_∧w.getD 4 []=wEq)):=by
 rw[←h]
 simp only[T5_,beq_iff_eq,T3_,jm_,bz_,wEq,and_assoc]
 constructor
 ·rintro⟨a,b,c,d⟩;exact⟨a,by omega,c,d⟩
 ·rintro⟨a,b,c,d⟩;exact⟨a,by omega,c,d⟩
theorem z4_ {w:List Str} {b:Bool} (h:(w.getD 0 []==[119,104,101,110]&&decide (bj_ w [115,97,121] > 0))=b):(b=true↔(w.getD 0 []=dg_∧0<bj_ w bp_)):=by
 rw[←h]
 simp only[T5_,beq_iff_eq,T3_,dg_,bp_]
 try exact Iff.rfl
attribute [local go_sem] asO al_ aq_ mt_ ms_ bp_ ol_ gu_ in
theorem arh_ (w:List Str) (hw:smW w) (hl:w.length≤100000):ACall En 108 [.sl false (an_ w)] [] [.ag (sC (e6_ w).1),.b (e6_ w).2] []:=by
 have hs:=tr_ w bp_
 have hss:=as3_ w (by omega)
 simp only[bp_]at hs hss
 have hsw:IntKind.i64.wrap (bj_ w [115,97,121]+1)=bj_ w [115,97,121]+1:=aj_ (by omega) (by omega)
 have ht:0<bj_ w [115,97,121]→(bj_ w [115,97,121]+1).toNat=(bj_ w [115,97,121]).toNat+1:=fun h=>by omega
 refine aa_ [] Tryz.func108 Tryz.ntmps108 fun C=>?_
 refine .seq (.rgo [] ?_ ?_ (h:=by simp only[go_sem,seval,hsw];rfl))
 ·(first|trivial|(simp;done)|(simp[ai_];done)|(simp[ai_];omega))
 refine .seq (.rgo [] ?_ ?_ (h:=by simp only[go_sem,seval,hsw];rfl))
 ·(first|trivial|(simp;done)|(simp[ai_];done)|(simp[ai_];omega))
 refine .seq (.block (.seq (.rgo [] ?_ ?_ (h:=by simp only[go_sem,seval,hsw];rfl))))
 ·(first|trivial|(simp;done)|(simp[ai_];done)|(simp[ai_];omega))
 refine .cB (fun h15=>?_) (fun h15=>?_) (hc:=by simp only[go_sem,seval,hsw];rfl) (hp:=by simp only[go_sem,seval,hsw])
 ·refine .seq (.rgo [] ?_ ?_ (h:=by simp only[go_sem,seval,hsw];rfl))
  ·(first|trivial|(simp;done)|(simp[ai_];done)|(simp[ai_];omega))
  refine .ret ⟨.inr rfl,?_⟩
  exact Out.plL (by simp only[Tryz.results108];rfl) (by simp only[ag_,go_sem,seval,hsw]<;>((have e:e6_ w=(S0,true):=(by unfold e6_;rw[if_pos (by simpa using h15)]));rw[e,br_];simp[les,leV,ler,af_,hc_,hp_,ha_,b0_,cl_,S0])) (h1:=by simp only[a8_,b4_,go_sem,seval,hsw]<;>(split<;>rfl)) (h3:=by simp only[go_sem,seval,hsw])
 ·refine .seq (.rgSo [33,39] [asO En { v:=.s (w.getD 2 []) },asO En { v:=.s (w.getD 4 []) }] ?_ ?_ (h:=by simp only[go_sem,seval,hsw,aw_ (gc_ h15)];rfl))
  ·have k1:(w.getD 0 []==[108,101,116]&&decide ((w.length:Int) > 5))=true→2<w.length:=(fun h=>by simp only[T5_,T3_]at h;omega);have k2:(w.getD 0 []==[108,101,116]&&decide ((w.length:Int) > 5)&&w.getD 2 []==[58])=true→4<w.length:=(fun h=>by simp only[T5_,T3_]at h;omega);exact⟨⟨⟨⟨by have:=gc_ h15;omega,(zh_ w 2 _ k1).1⟩,(zh_ w 2 _ k1).2⟩,(zh_ w 4 _ k2).1⟩,(zh_ w 4 _ k2).2⟩
  refine .cB (fun h20=>?_) (fun h20=>?_) (hc:=by simp only[go_sem,seval,hsw];rfl) (hp:=by simp only[go_sem,seval,hsw])
  ·refine .seq (.rgo [ab_ (d4_ (w.drop 5) (bu_ hw 5) (by simp;omega))] ?_ ?_ (h:=by simp only[go_sem,seval,hsw];rfl))
   ·have h5:=((yk_ h20).1 rfl).2.1;refine⟨⟨by omega,.inr (of_eq_true (ai_ w))⟩,?_⟩;rw[List.take_length];exact af_ _
   refine .seq (.rgDo [] ?_ ?_ (h:=by simp only[go_sem,seval,hsw,aw_ (show 1<w.length by simp at h20;omega),aw_ (show 3<w.length by simp at h20;omega)];rfl))
   ·have h5:=((yk_ h20).1 rfl).2.1;exact⟨by omega,rfl⟩
   refine .ret ⟨.inr rfl,?_⟩
   exact Out.plL (by simp only[Tryz.results108];rfl) (by simp only[ag_,go_sem,seval,hsw]<;>((have e:e6_ w=(⟨1,w.getD 1 [],w.getD 3 [],ex (w.drop 5),E0⟩,jj_ (w.drop 5)):=(by have:=gc_ h15;unfold e6_;rw[if_neg (by omega),if_pos ((yk_ h20).1 rfl)];rfl));rw[e,br_];simp[les,leV,ler,af_,hc_,hp_,ha_,b0_,cl_,jj_])) (h1:=by simp only[a8_,b4_,go_sem,seval,hsw]<;>(split<;>rfl)) (h3:=by simp only[go_sem,seval,hsw])
  ·refine .seq (.rgo [] ?_ ?_ (h:=by simp only[go_sem,seval,hsw,aw_ (gc_ h15)];rfl))
   ·have:=gc_ h15;omega
   refine .cB (fun h57=>?_) (fun h57=>?_) (hc:=by simp only[go_sem,seval,hsw];rfl) (hp:=by simp only[go_sem,seval,hsw])
   ·refine .seq (.rgo [ab_ (d4_ (w.drop 1) (bu_ hw 1) (by simp;omega))] ?_ ?_ (h:=by simp only[go_sem,seval,hsw];rfl))
    ·have h5:=gc_ h15;refine⟨⟨by omega,.inr (of_eq_true (ai_ w))⟩,?_⟩;rw[List.take_length];exact af_ _
    refine .seq (.rgo [] ?_ ?_ (h:=by simp only[go_sem,seval,hsw];rfl))
    ·(first|trivial|(simp;done)|(simp[ai_];done)|(simp[ai_];omega))
    refine .ret ⟨.inr rfl,?_⟩
    exact Out.plL (by simp only[Tryz.results108];rfl) (by simp only[ag_,go_sem,seval,hsw]<;>((have e:e6_ w=(⟨2,[],[],ex (w.drop 1),E0⟩,jj_ (w.drop 1)):=(by have:=gc_ h15;unfold e6_;rw[if_neg (by omega),if_neg (fun h=>absurd ((yk_ h20).2 h) (by decide)),if_pos (by simpa[bp_]using h57)];rfl));rw[e,br_];simp[les,leV,ler,af_,hc_,hp_,ha_,b0_,cl_,jj_])) (h1:=by simp only[a8_,b4_,go_sem,seval,hsw]<;>(split<;>rfl)) (h3:=by simp only[go_sem,seval,hsw])
   ·refine .seq (.rgo [ab_ hss] ?_ ?_ (h:=by simp only[go_sem,seval,hsw,aw_ (gc_ h15)];rfl))
    ·have:=gc_ h15;omega
    refine .cB (fun h71=>?_) (fun h71=>?_) (hc:=by simp only[go_sem,seval,hsw];rfl) (hp:=by simp only[go_sem,seval,hsw])
    ·refine .seq (.rgo [ab_ hss] ?_ ?_ (h:=by simp only[go_sem,seval,hsw];rfl))
     ·(first|trivial|(simp;done)|(simp[ai_];done)|(simp[ai_];omega))
     refine .seq (.rgo [ab_ (d4_ ((w.take (bj_ w bp_).toNat).drop 1) (bu_ (hx_ hw _) 1) (by simp;omega))] ?_ ?_ (h:=by simp only[go_sem,seval,hsw];rfl))
     ·have h5:=((z4_ h71).1 rfl).2;simp only[bp_]at h5;exact⟨⟨by omega,by omega,by omega,fun h=>absurd rfl h⟩,.inr (of_eq_true (ai_ w))⟩
     refine .seq (.rgo [ab_ (d4_ (w.drop ((bj_ w bp_).toNat+1)) (bu_ hw _) (by simp;omega))] ?_ ?_ (h:=by simp only[go_sem,seval,hsw];rfl))
     ·have h5:=((z4_ h71).1 rfl).2;simp only[bp_]at h5;refine⟨⟨by omega,.inr (of_eq_true (ai_ w))⟩,?_⟩;rw[List.take_length,ht h5];exact af_ _
     refine .seq (.rgo [] ?_ ?_ (h:=by simp only[go_sem,seval,hsw];rfl))
     ·(first|trivial|(simp;done)|(simp[ai_];done)|(simp[ai_];omega))
     refine .ret ⟨.inr rfl,?_⟩
     exact Out.plL (by simp only[Tryz.results108];rfl) (by simp only[ag_,go_sem,seval,hsw]<;>((have e:e6_ w=(⟨3,[],[],ex ((w.take (bj_ w bp_).toNat).drop 1),ex (w.drop ((bj_ w bp_).toNat+1))⟩,jj_ ((w.take (bj_ w bp_).toNat).drop 1)&&jj_ (w.drop ((bj_ w bp_).toNat+1))):=(by have:=gc_ h15;unfold e6_;rw[if_neg (by omega),if_neg (fun h=>absurd ((yk_ h20).2 h) (by decide)),if_neg (by simpa[bp_]using h57),if_pos ((z4_ h71).1 rfl)];rfl));rw[e,br_];simp[bp_,les,leV,ler,af_,hc_,hp_,ha_,b0_,cl_,jj_])) (h1:=by simp only[a8_,b4_,go_sem,seval,hsw]<;>(split<;>rfl)) (h3:=by simp only[go_sem,seval,hsw])
    ·refine .skip (.seq (.rgo [] ?_ ?_ (h:=by simp only[go_sem,seval,hsw];rfl)))
     ·(first|trivial|(simp;done)|(simp[ai_];done)|(simp[ai_];omega))
     refine .ret ⟨.inr rfl,?_⟩
     exact Out.plL (by simp only[Tryz.results108];rfl) (by simp only[ag_,go_sem,seval,hsw]<;>((have e:e6_ w=(S0,false):=(by have:=gc_ h15;unfold e6_;rw[if_neg (by omega),if_neg (fun h=>absurd ((yk_ h20).2 h) (by decide)),if_neg (by simpa[bp_]using h57),if_neg (fun h=>absurd ((z4_ h71).2 h) (by decide))]));rw[e,br_];simp[les,leV,ler,af_,hc_,hp_,ha_,b0_,cl_,S0])) (h1:=by simp only[a8_,b4_,go_sem,seval,hsw]<;>(split<;>rfl)) (h3:=by simp only[go_sem,seval,hsw])
theorem sh_ {line:Str} (h:¬((a1_ line).isSome=true∧(e6_ (bg_ line)).2=true∧sok (e6_ (bg_ line)).1=true∧ax_ (sw' (e6_ (bg_ line)).1)=line)):nm_ line=none:=by
 unfold nm_ bg_ at *
 cases ht:a1_ line with
 |none=>rfl
 |some ts=>
  rw[ht]at h
  simp only[Option.getD_some]at h
  dsimp only
  rw[if_neg]
  exact fun q=>h ⟨rfl,q⟩
theorem adv_ {line:Str} (h:(a1_ line).isSome=true) (h0:(e6_ (bg_ line)).2=true) (h1:sok (e6_ (bg_ line)).1=true) (h2:ax_ (sw' (e6_ (bg_ line)).1)=line):nm_ line=some (e6_ (bg_ line)).1:=by
 unfold nm_ bg_ at *
 cases ht:a1_ line with
 |none=>rw[ht]at h;cases h
 |some ts=>
  rw[ht]at h0 h1 h2
  simp only[Option.getD_some]at h0 h1 h2 ⊢
  rw[if_pos ⟨h0,h1,h2⟩]
theorem au2_ {w:List Str} (h:smW w):g6_ (e6_ w).1=true:=by
 have g:=ty_ h
 have e:=fun k=>r6_ (bu_ h k)
 have e0:sm E0=true:=by decide
 unfold e6_
 split
 ·decide
 ·split
  ·simp only[g6_,e,e0,Bool.and_true,T5_,T3_];have:=g 1;have:=g 3;omega
  ·split
   ·simp only[g6_,e,e0,Bool.and_true];rfl
   ·split
    ·simp only[g6_,e,r6_ (bu_ (hx_ h _) 1),Bool.and_true];rfl
    ·decide
attribute [local go_sem] aq_ ol_ br_ in
theorem r3_ (line:Str) (hl:line.length≤281474976710656):ACall En 53 [.s line] [] [.ag (sC ((ci_ line).getD S0)),.b (ci_ line).isSome] []:=by
 obtain⟨w1,w2⟩:=mj_ line
 have hs:=au2_ w1
 rw[aol_]
 refine aa_ [] Tryz.func53 Tryz.ntmps53 fun C=>?_
 refine .seq (.rg [] ?_)
 refine .seq (.rg [ab_ (ac8_ line hl)] ?_)
 refine .seq (.seq (.rg [] ?_))
 refine .cB (fun h14=>?_) (fun h14=>?_)
 ·refine .seq (.rg [] ?_)
  refine .ret ⟨.inr rfl,?_⟩
  exact Out.plL (by simp only[Tryz.results53];rfl) (by simp only[ag_,go_sem,seval]<;>(rw[sh_ (fun q=>by rw[q.1]at h14;simp at h14)];simp[S0,les,leV,ler,af_,hc_,hp_,ha_,b0_,cl_]))
 ·refine .skip (.seq (.rg [ab_ (arh_ (bg_ line) w1 (by omega))] ?_))
  refine .seq (.seq (.rg [ab_ (qv_ (e6_ (bg_ line)).1 hs),a4_ (sok (e6_ (bg_ line)).1=true) (fun h=>mh_ (e6_ (bg_ line)).1 (dw_ h) hs),a4_ (sok (e6_ (bg_ line)).1=true) (fun h=>ew_ (sw' (e6_ (bg_ line)).1) (by have:=(sm_ (dw_ h)).1;omega) (by have:=tw_ (dw_ h);omega))] ?_))
  refine .cB (fun h34=>?_) (fun h34=>?_)
  ·refine .seq (.rg [] ?_)
   refine .ret ⟨.inr rfl,?_⟩
   exact Out.plL (by simp only[Tryz.results53];rfl) (by simp only[ag_,go_sem,seval]<;>(rw[sh_ (by intro q;simp[q.1,q.2.1,q.2.2]at h34)];simp[S0,les,leV,ler,af_,hc_,hp_,ha_,b0_,cl_]))
  ·refine .skip (.seq (.rg [] ?_))
   refine .ret ⟨.inr rfl,?_⟩
   exact Out.plL (by simp only[Tryz.results53];rfl) (by simp only[ag_,go_sem,seval]<;>(rw[adv_ (by simp at h14;exact h14) (by simp at h34;exact h34.1.1) (by simp at h34;exact h34.1.2) (by simp at h34;exact h34.2)];simp[les,leV,ler,af_]))
end
section
set_option maxRecDepth 100000
set_option maxHeartbeats 8000000
theorem l7if {w:List Str} {b:Bool} (h:((w.getD 0 []==[105,102]&&decide (bj_ w [58] > 0))&&atI w (bj_ w [58]+1)==[112,114,105,110,116])=b):(b=true↔(w.getD 0 []=wIf∧0<bj_ w bz_∧w.getD ((bj_ w bz_).toNat+1) []=bi_)):=by
 have e:0<bj_ w [58]→atI w (bj_ w [58]+1)=w.getD ((bj_ w [58]).toNat+1) []:=fun q=>by
  unfold atI
  rw[if_pos (by omega),show(bj_ w [58]+1).toNat=(bj_ w [58]).toNat+1 by omega]
 rw[←h]
 simp only[T5_,beq_iff_eq,T3_,wIf,bz_,bi_,and_assoc]
 constructor
 ·rintro⟨a,b,c⟩;exact⟨a,b,by rw[←e b];exact c⟩
 ·rintro⟨a,b,c⟩;exact⟨a,b,by rw[e b];exact c⟩
theorem as4_ {w:List Str} (h:w.getD ((bj_ w bz_).toNat+1) []=bi_):(bj_ w bz_).toNat+1<w.length:=h2_ fun e=>by rw[e]at h;exact absurd h (by decide)
theorem l7eq {w:List Str} {b:Bool} (h:(atI w 1==[61])=b):(b=true↔w.getD 1 []=wEq):=by
 rw[←h,show atI w 1=w.getD 1 []from rfl];simp[wEq]
attribute [local go_sem] al_ aq_ mt_ ms_ bz_ pw_ gu_ in
theorem ar4_ (w:List Str) (hw:smW w) (hl:w.length≤100000):ACall En 185 [.sl false (an_ w)] [] [.ag (bC (e5_ w).1),.b (e5_ w).2] []:=by
 have hs:=tr_ w bz_
 have hss:=ako_ w (by omega)
 simp only[bz_]at hs hss
 have hsw:IntKind.i64.wrap (bj_ w [58]+2)=bj_ w [58]+2:=aj_ (by omega) (by omega)
 have hsw1:IntKind.i64.wrap (bj_ w [58]+1)=bj_ w [58]+1:=aj_ (by omega) (by omega)
 have ht:0<bj_ w [58]→(bj_ w [58]+2).toNat=(bj_ w [58]).toNat+2:=fun h=>by omega
 refine aa_ [] Tryz.func185 Tryz.ntmps185 fun C=>?_
 refine .seq (.rgo [] ?_ ?_ (h:=by simp only[go_sem,seval,hsw,hsw1];rfl))
 ·(first|trivial|(simp;done)|(simp[ai_];done)|(simp[ai_];omega)|(have:=gc_ h15;omega))
 refine .seq (.rgo [ab_ hss] ?_ ?_ (h:=by simp only[go_sem,seval,hsw,hsw1];rfl))
 ·(first|trivial|(simp;done)|(simp[ai_];done)|(simp[ai_];omega)|(have:=gc_ h15;omega))
 refine .seq (.block (.seq (.rgo [] ?_ ?_ (h:=by simp only[go_sem,seval,hsw,hsw1];rfl))))
 ·(first|trivial|(simp;done)|(simp[ai_];done)|(simp[ai_];omega)|(have:=gc_ h15;omega))
 refine .cB (fun h15=>?_) (fun h15=>?_) (hc:=by simp only[go_sem,seval,hsw,hsw1];rfl) (hp:=by simp only[go_sem,seval,hsw,hsw1])
 ·refine .seq (.rgo [] ?_ ?_ (h:=by simp only[go_sem,seval,hsw,hsw1];rfl))
  ·(first|trivial|(simp;done)|(simp[ai_];done)|(simp[ai_];omega)|(have:=gc_ h15;omega))
  refine .ret ⟨.inr rfl,?_⟩
  exact Out.plL (by simp only[Tryz.results185];rfl) (by simp only[ag_,go_sem,seval,hsw,hsw1]<;>((have e:e5_ w=(B0,true):=(by unfold e5_;rw[if_pos (by simpa using h15)]));rw[e,cz_];simp[les,leV,ler,af_,hc_,hp_,ha_,b0_,cl_,B0])) (h1:=by simp only[a8_,b4_,go_sem,seval,hsw,hsw1]<;>(split<;>rfl)) (h3:=by simp only[go_sem,seval,hsw,hsw1])
 ·refine .seq (.rgo [] ?_ ?_ (h:=by simp only[go_sem,seval,hsw,hsw1,aw_ (gc_ h15)];rfl))
  ·(first|trivial|(simp;done)|(simp[ai_];done)|(simp[ai_];omega)|(have:=gc_ h15;omega))
  refine .cB (fun h20=>?_) (fun h20=>?_) (hc:=by simp only[go_sem,seval,hsw,hsw1];rfl) (hp:=by simp only[go_sem,seval,hsw,hsw1])
  ·refine .seq (.rgo [ab_ (d4_ (w.drop 1) (bu_ hw 1) (by simp;omega))] ?_ ?_ (h:=by simp only[go_sem,seval,hsw,hsw1];rfl))
   ·have h5:=gc_ h15;refine⟨⟨by omega,.inr (of_eq_true (ai_ w))⟩,?_⟩;rw[List.take_length];exact af_ _
   refine .seq (.rgo [] ?_ ?_ (h:=by simp only[go_sem,seval,hsw,hsw1];rfl))
   ·(first|trivial|(simp;done)|(simp[ai_];done)|(simp[ai_];omega)|(have:=gc_ h15;omega))
   refine .ret ⟨.inr rfl,?_⟩
   exact Out.plL (by simp only[Tryz.results185];rfl) (by simp only[ag_,go_sem,seval,hsw,hsw1]<;>((have e:e5_ w=(⟨2,[],ex (w.drop 1),E0⟩,jj_ (w.drop 1)):=(by have:=gc_ h15;unfold e5_;rw[if_neg (by omega),if_pos (by simpa[bi_]using h20)];rfl));rw[e,cz_];simp[les,leV,ler,af_,hc_,hp_,ha_,b0_,cl_,jj_])) (h1:=by simp only[a8_,b4_,go_sem,seval,hsw,hsw1]<;>(split<;>rfl)) (h3:=by simp only[go_sem,seval,hsw,hsw1])
  ·refine .seq (.rgo [ab_ (ky_ w (bj_ w [58]+1))] ?_ ?_ (h:=by simp only[go_sem,seval,hsw,hsw1,aw_ (gc_ h15)];rfl))
   ·(first|trivial|(simp;done)|(simp[ai_];done)|(simp[ai_];omega)|(have:=gc_ h15;omega))
   refine .cB (fun h34=>?_) (fun h34=>?_) (hc:=by simp only[go_sem,seval,hsw,hsw1];rfl) (hp:=by simp only[go_sem,seval,hsw,hsw1])
   ·refine .seq (.rgo [ab_ (d4_ ((w.take (bj_ w bz_).toNat).drop 1) (bu_ (hx_ hw _) 1) (by simp;omega))] ?_ ?_ (h:=by simp only[go_sem,seval,hsw,hsw1];rfl))
    ·have h5:=((l7if h34).1 rfl).2.1;simp only[bz_]at h5;exact⟨⟨by omega,by omega,by omega,fun h=>absurd rfl h⟩,.inr (of_eq_true (ai_ w))⟩
    refine .seq (.rgo [ab_ (d4_ (w.drop ((bj_ w bz_).toNat+2)) (bu_ hw _) (by simp;omega))] ?_ ?_ (h:=by simp only[go_sem,seval,hsw,hsw1];rfl))
    ·have h5:=((l7if h34).1 rfl).2;have h6:=as4_ h5.2;simp only[bz_]at h5 h6;refine⟨⟨by omega,.inr (of_eq_true (ai_ w))⟩,?_⟩;rw[List.take_length,ht h5.1];exact af_ _
    refine .seq (.rgo [] ?_ ?_ (h:=by simp only[go_sem,seval,hsw,hsw1];rfl))
    ·(first|trivial|(simp;done)|(simp[ai_];done)|(simp[ai_];omega)|(have:=gc_ h15;omega))
    refine .ret ⟨.inr rfl,?_⟩
    exact Out.plL (by simp only[Tryz.results185];rfl) (by simp only[ag_,go_sem,seval,hsw,hsw1]<;>((have e:e5_ w=(⟨3,[],ex ((w.take (bj_ w bz_).toNat).drop 1),ex (w.drop ((bj_ w bz_).toNat+2))⟩,jj_ ((w.take (bj_ w bz_).toNat).drop 1)&&jj_ (w.drop ((bj_ w bz_).toNat+2))):=(by have:=gc_ h15;unfold e5_;rw[if_neg (by omega),if_neg (by simpa[bi_]using h20),if_pos ((l7if h34).1 rfl)];rfl));rw[e,cz_];simp[bz_,les,leV,ler,af_,hc_,hp_,ha_,b0_,cl_,jj_])) (h1:=by simp only[a8_,b4_,go_sem,seval,hsw,hsw1]<;>(split<;>rfl)) (h3:=by simp only[go_sem,seval,hsw,hsw1])
   ·refine .seq (.rgo [ab_ (ky_ w 1)] ?_ ?_ (h:=by simp only[go_sem,seval,hsw,hsw1];rfl))
    ·(first|trivial|(simp;done)|(simp[ai_];done)|(simp[ai_];omega)|(have:=gc_ h15;omega))
    refine .cB (fun h72=>?_) (fun h72=>?_) (hc:=by simp only[go_sem,seval,hsw,hsw1];rfl) (hp:=by simp only[go_sem,seval,hsw,hsw1])
    ·refine .seq (.rgo [ab_ (d4_ (w.drop 2) (bu_ hw 2) (by simp;omega))] ?_ ?_ (h:=by simp only[go_sem,seval,hsw,hsw1];rfl))
     ·have h5:1<w.length:=h2_ (by rw[(l7eq h72).1 rfl];decide);refine⟨⟨by omega,.inr (of_eq_true (ai_ w))⟩,?_⟩;rw[List.take_length];exact af_ _
     refine .seq (.rgDo [] ?_ ?_ (h:=by simp only[go_sem,seval,hsw,hsw1,aw_ (gc_ h15)];rfl))
     ·have:=gc_ h15;exact⟨by omega,rfl⟩
     refine .ret ⟨.inr rfl,?_⟩
     exact Out.plL (by simp only[Tryz.results185];rfl) (by simp only[ag_,go_sem,seval,hsw,hsw1]<;>((have e:e5_ w=(⟨1,w.getD 0 [],ex (w.drop 2),E0⟩,jj_ (w.drop 2)):=(by have:=gc_ h15;unfold e5_;rw[if_neg (by omega),if_neg (by simpa[bi_]using h20),if_neg (fun h=>absurd ((l7if h34).2 h) (by decide)),if_pos ((l7eq h72).1 rfl)];rfl));rw[e,cz_];simp[les,leV,ler,af_,hc_,hp_,ha_,b0_,cl_,jj_])) (h1:=by simp only[a8_,b4_,go_sem,seval,hsw,hsw1]<;>(split<;>rfl)) (h3:=by simp only[go_sem,seval,hsw,hsw1])
    ·refine .skip (.seq (.rgo [] ?_ ?_ (h:=by simp only[go_sem,seval,hsw,hsw1];rfl)))
     ·(first|trivial|(simp;done)|(simp[ai_];done)|(simp[ai_];omega)|(have:=gc_ h15;omega))
     refine .ret ⟨.inr rfl,?_⟩
     exact Out.plL (by simp only[Tryz.results185];rfl) (by simp only[ag_,go_sem,seval,hsw,hsw1]<;>((have e:e5_ w=(B0,false):=(by have:=gc_ h15;unfold e5_;rw[if_neg (by omega),if_neg (by simpa[bi_]using h20),if_neg (fun h=>absurd ((l7if h34).2 h) (by decide)),if_neg (fun h=>absurd ((l7eq h72).2 h) (by decide))]));rw[e,cz_];simp[les,leV,ler,af_,hc_,hp_,ha_,b0_,cl_,B0])) (h1:=by simp only[a8_,b4_,go_sem,seval,hsw,hsw1]<;>(split<;>rfl)) (h3:=by simp only[go_sem,seval,hsw,hsw1])
theorem se_ {line:Str} (h:¬((a1_ line).isSome=true∧(e5_ (bg_ line)).2=true∧bok (e5_ (bg_ line)).1=true∧ax_ (bw (e5_ (bg_ line)).1)=line)):nr_ line=none:=by
 unfold nr_ bg_ at *
 cases ht:a1_ line with
 |none=>rfl
 |some ts=>
  rw[ht]at h
  simp only[Option.getD_some]at h
  dsimp only
  rw[if_neg]
  exact fun q=>h ⟨rfl,q⟩
theorem aea_ {line:Str} (h:(a1_ line).isSome=true) (h0:(e5_ (bg_ line)).2=true) (h1:bok (e5_ (bg_ line)).1=true) (h2:ax_ (bw (e5_ (bg_ line)).1)=line):nr_ line=some (e5_ (bg_ line)).1:=by
 unfold nr_ bg_ at *
 cases ht:a1_ line with
 |none=>rw[ht]at h;cases h
 |some ts=>
  rw[ht]at h0 h1 h2
  simp only[Option.getD_some]at h0 h1 h2 ⊢
  rw[if_pos ⟨h0,h1,h2⟩]
theorem ats_ {w:List Str} (h:smW w):smb (e5_ w).1=true:=by
 have g:=ty_ h
 have e:=fun k=>r6_ (bu_ h k)
 have e0:sm E0=true:=by decide
 unfold e5_
 split
 ·decide
 ·split
  ·simp only[smb,e,e0,Bool.and_true];rfl
  ·split
   ·simp only[smb,e,r6_ (bu_ (hx_ h _) 1),Bool.and_true];rfl
   ·split
    ·simp only[smb,e,e0,Bool.and_true,T3_];have:=g 0;omega
    ·decide
attribute [local go_sem] aq_ pw_ cz_ in
theorem abn_ (line:Str) (hl:line.length≤281474976710656):ACall En 122 [.s line] [] [.ag (bC ((e2_ line).getD B0)),.b (e2_ line).isSome] []:=by
 obtain⟨w1,w2⟩:=mj_ line
 have hs:=ats_ w1
 rw[am9_]
 refine aa_ [] Tryz.func122 Tryz.ntmps122 fun C=>?_
 refine .seq (.rg [] ?_)
 refine .seq (.rg [ab_ (ac8_ line hl)] ?_)
 refine .seq (.seq (.rg [] ?_))
 refine .cB (fun h14=>?_) (fun h14=>?_)
 ·refine .seq (.rg [] ?_)
  refine .ret ⟨.inr rfl,?_⟩
  exact Out.plL (by simp only[Tryz.results122];rfl) (by simp only[ag_,go_sem,seval]<;>(rw[se_ (fun q=>by rw[q.1]at h14;simp at h14)];simp[B0,les,leV,ler,af_,hc_,hp_,ha_,b0_,cl_]))
 ·refine .skip (.seq (.rg [ab_ (ar4_ (bg_ line) w1 (by omega))] ?_))
  refine .seq (.seq (.rg [ab_ (ys_ (e5_ (bg_ line)).1 hs),a4_ (bok (e5_ (bg_ line)).1=true) (fun h=>q1_ (e5_ (bg_ line)).1 (ajg_ h) hs),a4_ (bok (e5_ (bg_ line)).1=true) (fun h=>ew_ (bw (e5_ (bg_ line)).1) (by have:=(nh_ (ajg_ h)).1;omega) (by have:=ot_ (ajg_ h);omega))] ?_))
  refine .cB (fun h34=>?_) (fun h34=>?_)
  ·refine .seq (.rg [] ?_)
   refine .ret ⟨.inr rfl,?_⟩
   exact Out.plL (by simp only[Tryz.results122];rfl) (by simp only[ag_,go_sem,seval]<;>(rw[se_ (by intro q;simp[q.1,q.2.1,q.2.2]at h34)];simp[B0,les,leV,ler,af_,hc_,hp_,ha_,b0_,cl_]))
  ·refine .skip (.seq (.rg [] ?_))
   refine .ret ⟨.inr rfl,?_⟩
   exact Out.plL (by simp only[Tryz.results122];rfl) (by simp only[ag_,go_sem,seval]<;>(rw[aea_ (by simp at h14;exact h14) (by simp at h34;exact h34.1.1) (by simp at h34;exact h34.1.2) (by simp at h34;exact h34.2)];simp[les,leV,ler,af_]))
end
section
set_option maxRecDepth 100000
set_option maxHeartbeats 4000000
theorem tl_ {s:Str} {k:Nat} (h:k<s.length) (w:Int):i5_ (s.drop k) w=if ((s.getD k 0).toNat:Int)=10 then i5_ (s.drop (k+1)) 0 else decide (32≤((s.getD k 0).toNat:Int))&&decide (((s.getD k 0).toNat:Int)≤126)&&decide (w+1≤120)&&i5_ (s.drop (k+1)) (w+1):=by
 have e:s.drop k=s.getD k 0::s.drop (k+1):=by
  rw[List.drop_eq_getElem_cons h,T8_,T6_ h];rfl
 rw[e,i5_]
 by_cases hc:s.getD k 0=10
 ·rw[if_pos hc,if_pos (by rw[hc];rfl)]
 ·rw[if_neg hc,if_neg (fun q=>hc (by apply UInt8.toNat_inj.1;show _=10;omega))]
  congr 2
  congr 1
  ·exact decide_eq_decide.2 (by omega)
  ·exact decide_eq_decide.2 (by omega)
theorem rw_ {s:Str} {k:Nat} (h:k<s.length) {w:Int} (h15:¬((s.getD k 0).toNat:Int)=10):i5_ (s.drop k) w=(!(decide (((s.getD k 0).toNat:Int)<32)||decide (((s.getD k 0).toNat:Int) > 126)||decide (w+1 > 120))&&i5_ (s.drop (k+1)) (w+1)):=by
 rw[tl_ h,if_neg h15]
 generalize ((s.getD k 0).toNat:Int)=c
 rw[show decide (32≤c)=!decide (c<32) by rw[←decide_not];exact decide_eq_decide.2 (by omega),show decide (c≤126)=!decide (c > 126) by rw[←decide_not];exact decide_eq_decide.2 (by omega),show decide (w+1≤120)=!decide (w+1 > 120) by rw[←decide_not];exact decide_eq_decide.2 (by omega)]
 cases decide (c<32)<;>cases decide (c > 126)<;>cases decide (w+1 > 120)<;>rfl
theorem mg_ {s:Str} (h:tOk s=true):s.length≤4000:=by simp only[tOk,T5_,T3_]at h;exact h.2
theorem x8_ (s:Str) (hs:s.length≤281474976710656):ACall En 70 [.s s] [] [.b (tOk s)] []:=by
 refine aa_ [] Tryz.func70 Tryz.ntmps70 fun C=>?_
 refine .seq (.rg [] ?_)
 refine .seq (.rg [] ?_)
 refine .seq (.seq (.rg [] ?_))
 refine .block (.loopK (fun q:Nat × Int=>⟨[.s s,.no,.no,.i .i64 q.2,.no,.no,.i .i64 s.length,.i .i64 q.1,.no,.no,.no,.no,.no,.no,.no,.no,.no,.no,.no,.no,.no,.no,.no,.no,.no,.no,.no,.no,.no,.no,.no,.no,.no,.no],ak_ [],us []⟩) (fun q:Nat × Int=>q.1≤s.length∧0≤q.2∧q.2≤120∧i5_ (s.drop q.1) q.2=i5_ s 0) (fun q:Nat × Int=>s.length - q.1) ((0,0)) ?_ ?_ (fun q hI=>?_))
 ·exact⟨by simp,by decide,by decide,rfl⟩
 ·refine Can.wh ?_;first|trivial|(simp)
 refine .seq (.rg [] ?_)
 refine .seq (.cB (fun h8=>?_) (fun h8=>?_))
 ·refine .skip (.seqJ (fun p:Int=>⟨[.s s,.no,.no,.i .i64 p,.no,.no,.i .i64 s.length,.i .i64 q.1,.no,.no,.no,.no,.no,.no,.no,.no,.no,.no,.no,.no,.no,.no,.no,.no,.no,.no,.no,.no,.no,.no,.no,.no,.no,.no],ak_ [],us []⟩) (fun p:Int=>0≤p∧p≤120∧i5_ (s.drop (q.1+1)) p=i5_ s 0) ?_ (fun p hJ=>?_))
  ·refine .block (.seq (.rg [] ?_))
   refine .seq (.rg [] ?_)
   refine .seq (.rgo [] ?_ ?_)
   ·simp at h8;simp;omega
   refine .cB (fun h15=>?_) (fun h15=>?_)
   ·refine .rg [] ?_
    refine Exists.intro (0) ⟨?_,?_⟩
    ·first|(have e:=tl_ (show q.1<s.length by simpa using h8) q.2;rw[if_pos (by simpa using h15)]at e;exact⟨by decide,by decide,by rw[←e];exact hI.2.2.2⟩)|(have e:=rw_ (show q.1<s.length by simpa using h8) (w:=q.2) (by simpa using h15);rw[aj_ (by omega) (by omega)]at h29;rw[h29]at e;simp only[Bool.or_eq_false_iff,T4_]at h29;exact⟨by omega,by omega,by rw[←hI.2.2.2,e];rfl⟩)
    refine Can.wh ?_;first|trivial|(rw[aj_ (by omega) (by omega)])
   ·refine .seq (.rgo [] ?_ ?_)
    ·simp only[T3_]at h8;exact⟨⟨⟨⟨by omega,by omega⟩,fun h=>⟨h,by omega,by omega⟩⟩,fun h=>by rw[h];rfl⟩,fun h=>by rw[h];rfl⟩
    refine .cB (fun h29=>?_) (fun h29=>?_)
    ·refine .seq (.rg [] ?_)
     refine .ret ⟨.inr rfl,?_⟩
     exact Out.pl (by simp only[Tryz.results70];rfl) (by simp only[ag_,go_sem,seval]<;>(have e:=rw_ (show q.1<s.length by simpa using h8) (w:=q.2) (by simpa using h15);rw[aj_ (by omega) (by omega)]at h29;rw[h29]at e;unfold tOk;rw[←hI.2.2.2,e];rfl))
    ·refine .skip ?_
     refine Exists.intro (q.2+1) ⟨?_,?_⟩
     ·first|(have e:=tl_ (show q.1<s.length by simpa using h8) q.2;rw[if_pos (by simpa using h15)]at e;exact⟨by decide,by decide,by rw[←e];exact hI.2.2.2⟩)|(have e:=rw_ (show q.1<s.length by simpa using h8) (w:=q.2) (by simpa using h15);rw[aj_ (by omega) (by omega)]at h29;rw[h29]at e;simp only[Bool.or_eq_false_iff,T4_]at h29;exact⟨by omega,by omega,by rw[←hI.2.2.2,e];rfl⟩)
     refine Can.wh ?_;first|trivial|(rw[aj_ (by omega) (by omega)])
  refine .rg [] ?_
  refine Exists.intro ((q.1+1,p)) ⟨?_,?_,?_⟩
  ·simp at h8;exact⟨by dsimp only;omega,hJ.1,hJ.2.1,hJ.2.2⟩
  ·simp at h8;dsimp only;omega
  refine Can.wh ?_;first|trivial|(rw[aj_ (by omega) (by omega)];simp)
 ·refine .exit (.seq (.rg [] ?_))
  refine .ret ⟨.inr rfl,?_⟩
  exact Out.pl (by simp only[Tryz.results70];rfl) (by simp only[ag_,go_sem,seval]<;>(simp only[T4_]at h8;have e:=hI.2.2.2;rw[List.drop_of_length_le (by omega)]at e;unfold tOk;rw[←e];simp only[i5_,Bool.true_and];rw[show decide ((s.length:Int)≤4000)=decide (s.length≤4000)from decide_eq_decide.2 (by omega)]))
attribute [local go_sem] aq_ al_ in
theorem agw_ (l:List Str) (hl:l.length<1099511627776):ACall En 71 [.sl false (an_ l)] [] [.sl false (an_ l)] []:=by
 refine aa_ [] Tryz.func71 Tryz.ntmps71 fun C=>?_
 refine .seq (.rg [] ?_)
 refine .seq (.rg [] ?_)
 refine .ret ⟨.inr rfl,?_⟩
 exact Out.plL (by simp only[Tryz.results71];rfl) (by simp only[ag_,go_sem,seval]<;>(rw[T1_ (by rw[al_];exact Nat.le_refl _)];exact af_ _))
attribute [local go_sem] aq_ in
theorem k3_ (s:Str) (hs:s.length≤281474976710656):ACall En 34 [.s s] [] [.sl false (an_ (bt_ s))] []:=by
 refine aa_ [] Tryz.func34 Tryz.ntmps34 fun C=>?_
 refine .seq (.rgo [] ?_ ?_)
 ·(first|trivial|(simp;done)|(simpa using h5))
 refine .seq (.seq (.rgo [ab_ (x8_ s hs)] ?_ ?_))
 ·(first|trivial|(simp;done)|(simpa using h5))
 refine .cB (fun h5=>?_) (fun h5=>?_)
 ·refine .seq (.rgo [] ?_ ?_)
  ·(first|trivial|(simp;done)|(simpa using h5))
  refine .ret ⟨.inr rfl,?_⟩
  exact Out.plL (by simp only[Tryz.results34];rfl) (by simp only[ag_,go_sem,seval]<;>(simp at h5;simp[bt_,h5,an_,ler]))
 ·refine .skip (.seq (.rgo [a4_ (tOk s=true) (fun h=>avy_ s (by have:=mg_ h;omega)),a4_ (tOk s=true) (fun h=>agw_ (spl s) (by have:=tt_ s;have:=mg_ h;omega))] ?_ ?_))
  ·(first|trivial|(simp;done)|(simpa using h5))
  refine .ret ⟨.inr rfl,?_⟩
  exact Out.plL (by simp only[Tryz.results34];rfl) (by simp only[ag_,go_sem,seval]<;>(simp at h5;simp[bt_,h5,af_,leV]))
end
end Go.Proofs.YthjccajoadjicaaGreatDoor
