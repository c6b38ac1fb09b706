/- The reference's reader of what is reckoned. Conditions: none. -/
import Derived.Test.YthjccajoadjicaaGreatDoorMl
set_option linter.unusedVariables false
set_option linter.unusedSimpArgs false
set_option maxRecDepth 100000
set_option maxHeartbeats 8000000
namespace Go.Proofs.YthjccajoadjicaaGreatDoor
section
def atI (w:List Str) (at':Int):Str:=if 0≤at' then w.getD at'.toNat []else []
theorem jp_ (w:List Str) (k:Nat):atI w (k:Int)=w.getD k []:=by unfold atI;rw[if_pos (by omega),Int.toNat_natCast]
attribute [local go_sem] af_ ah_ in
theorem lg_ (w:List Str) (i:Int):ACall En 245 [.sl false (ai_ w),.i .i64 i] [] [.s (atI w i)] []:=by
 refine aa_ [] Tryz.func245 Tryz.ntmps245 fun C=>?_
 refine .seq (.rg [] ?_)
 refine .seq (.seq (.rg [] ?_))
 refine .cB (fun h12=>?_) fun h12=>?_
 ·refine .seq (.rgo [] ?_ ?_ (h:=by simp only[go_sem,seval,an_ (show i.toNat<w.length by simp only[Bool.and_eq_true,decide_eq_true_eq]at h12;omega)];rfl))
  ·((rw[Bool.and_eq_true]at h12;exact⟨of_decide_eq_true h12.1,of_decide_eq_true h12.2⟩))
  refine .ret ⟨.inr rfl,Out.pP Tryz.results245 ?_⟩;rw[Bool.and_eq_true]at h12;unfold atI;rw[if_pos (of_decide_eq_true h12.1)]
 refine .skip (.seq (.rg [] ?_))
 refine .ret ⟨.inr rfl,Out.pP Tryz.results245 ?_⟩;unfold atI;split;(rename_i h0;rw[decide_eq_true h0,Bool.true_and]at h12;have h1:=of_decide_eq_false h12;rw[List.getD_eq_getElem?_getD,List.getElem?_eq_none (by omega)];rfl);rfl
def ai9_ (w:List Str) (n:Nat):Prop:=∀(k:Nat) (d:Int),0≤d→d≤5→k≤w.length+1→10 * (w.length - k)+5≤n→ACall En 309 [.sl false (ai_ w),.i .i64 k,.i .i64 d] [] [.ag (eC (e2_ n w k d).1),.i .i64 (oN (e2_ n w k d).2)] []
def LpOk (w:List Str) (n:Nat):Prop:=∀(k t:Nat) (d:Int),0≤d→d≤5→2≤t→t≤4→k≤w.length+1→10 * (w.length - k)+10 - t≤n→ACall En 284 [.sl false (ai_ w),.i .i64 k,.i .i64 t,.i .i64 d] [] [.ag (eC (sLp n w k t d).1),.i .i64 (oN (sLp n w k t d).2)] []
def L1Ok (w:List Str) (n:Nat):Prop:=∀(k:Nat) (d:Int),0≤d→d≤5→k≤w.length+1→10 * (w.length - k)+9≤n→ACall En 238 [.sl false (ai_ w),.i .i64 k,.i .i64 d] [] [.ag (eC (sL1 n w k d).1),.i .i64 (oN (sL1 n w k d).2)] []
theorem jz_ (j:Nat) (h:j≤4000000):IntKind.i64.wrap (j:Int)=(j:Int):=ac_ (by omega) (by omega)
theorem oo_ {w:List Str} {o:Option Nat} (h:(decide (oN o<0)||!(atI w (oN o)==[41]))=false):∃b,o=some b∧w.getD b []=[41]:=by
 cases o with
 |none=>simp[oN]at h
 |some b=>
  refine⟨b,rfl,?_⟩
  simp only[oN,jp_,Bool.or_eq_false_iff,Bool.not_eq_false',beq_iff_eq]at h
  exact h.2
theorem awj_ {w:List Str} {o:Option Nat} (h:(decide (oN o<0)||!(atI w (oN o)==[41]))=true):¬ ∃b,o=some b∧w.getD b []=[41]:=by
 rintro⟨b,rfl,e⟩
 have h':(decide ((b:Int)<0)||!(atI w (b:Int)==[41]))=true:=h
 rw[jp_,e,decide_eq_false (by omega)]at h'
 exact absurd h' (by decide)
theorem a3e_ {w:List Str} {j k:Nat} {e:E} (h:w.getD k []=wAs) (h2:ey_ (w.getD (k+1) [])=true):sAs (j+1) w k e=sAs j w (k+2) (.mk 4 0 (w.getD (k+1) []) [e]):=by rw[sAs,if_pos h,if_pos h2]
theorem ax1_ {w:List Str} {j k:Nat} {e:E} (h:w.getD k []=wAs) (h2:ey_ (w.getD (k+1) [])=false):sAs (j+1) w k e=(e,none):=by rw[sAs,if_pos h,if_neg (by rw[h2];decide)]
theorem a1l_ {w:List Str} {j k:Nat} {e:E} (h:w.getD k []≠wAs):sAs (j+1) w k e=(e,some k):=by rw[sAs,if_neg h]
theorem apd_ {n:Nat} {w:List Str} {k:Nat} {d:Int} (h:a8_ (w.getD k [])=false) (h2:gi_ (w.getD k [])=false) (h3:¬(w.getD k []=[40]∧0<d)):e2_ (n+1) w k d=(E0,none):=by simp only[e2_,h,h2,Bool.false_eq_true,if_false,if_neg h3]
theorem aol_ {n:Nat} {w:List Str} {k:Nat} {d:Int} (h:a8_ (w.getD k [])=false) (h2:gi_ (w.getD k [])=false) (h3:w.getD k []=[40]∧0<d) (h4:¬ ∃b,(sL1 n w (k+1) (d - 1)).2=some b∧w.getD b []=[41]):e2_ (n+1) w k d=((sL1 n w (k+1) (d - 1)).1,none):=by
 simp only[e2_,h,h2,Bool.false_eq_true,if_false,if_pos h3]
 cases ho:(sL1 n w (k+1) (d - 1)).2 with
 |none=>rfl
 |some b=>dsimp only;rw[if_neg (fun e=>h4 ⟨b,ho,e⟩)]
attribute [local go_sem] af_ ah_ dz_ jp_ in
theorem anb_ (w:List Str) (hw:smW w) (hl:w.length≤1000000) (n:Nat) (ih:∀j,j<n+1→L1Ok w j):ai9_ w (n+1):=fun k d d0 d5 hk hn=>by
 have hW:=fun i=>aaz_ hw i
 have hS:∀i,(w.getD i []).length≤281474976710656:=fun i=>by
  rcases Nat.lt_or_ge i w.length with q|q
  ·exact hw _ (ag_ (d:=[]) q)
  rw[List.getD_eq_getElem?_getD,List.getElem?_eq_none q];simp
 have hs:=hS k
 have e0:=jp_ w k
 have L:=fun(h:k<w.length∧0<d)=>ih n (by omega) (k+1) (d - 1) (by omega) (by omega) (by omega) (by omega)
 have hB:=((ub_ w hw n).2.2.2 (k+1) (d - 1)).2
 refine aa_ [] Tryz.func309 Tryz.ntmps309 fun C=>?_
 refine .seq (.rg [] ?_ (h:=by simp only[go_sem,seval,e0];rfl))
 refine .seq (.rg [ab_ (lg_ w k)] ?_ (h:=by simp only[go_sem,seval,e0];rfl))
 refine .seq (.rg [] ?_ (h:=by simp only[go_sem,seval,e0];rfl))
 refine .seq (.rg [] ?_ (h:=by simp only[go_sem,seval,e0,jz_ (k+1) (by omega),show((k:Int)+1)=((k+1:Nat):Int)from rfl];rfl))
 refine .seqJ (fun p:Nat × E=>⟨[.sl false (ai_ w),.no,.no,.no,.no,.no,.pt 16 4 0 0,.no,.no,.pt 19 4 0 0,.i .i64 p.1,.no,.no,.no,.no,.no,.no,.no,.no,.no,.no,.no,.no,.no,.no,.no,.no,.no,.no,.no,.no,.no,.no,.no,.no,.no,.no,.no,.no,.no,.no,.no,.no,.no,.no,.no,.no,.no,.no,.no,.no,.no,.no,.no,.no,.no,.no,.no,.no,.no,.no,.no,.no,.no,.no,.no,.no,.no,.no,.no,.no,.no,.no,.no,.no,.no,.no,.no,.no,.no,.no,.no,.no,.no,.no,.no,.no],ae_ [(16,⟨56,4,[[.i .i64 0,.i .i64 0,.s [],.sl true []]]⟩),(19,⟨56,4,[eC p.2]⟩)],us [16,19]⟩) (fun p:Nat × E=>e2_ (n+1) w k d=sAs n w p.1 p.2∧p.1≤w.length∧k+1≤p.1) ?_ (fun p hJ=>?_)
 ·refine .block (.seq (.rg [ab_ (akk_ (w.getD k []) hs)] ?_ (h:=by simp only[go_sem,seval,e0];rfl)))
  refine .cB (fun h22=>?_) (fun h22=>?_) (hc:=by simp only[go_sem,seval,e0];rfl) (hp:=by simp only[go_sem,seval,e0])
  ·refine .seq (.rg [ab_ (v7_ (w.getD k []) hs)] ?_ (h:=by simp only[go_sem,seval,e0];rfl))
   refine .rg [] ?_ (h:=by simp only[go_sem,seval,e0,(qc_ (w.getD k [])).2 (by simpa using h22)];rfl)
   refine Exists.intro ((k+1,.mk 1 (am_ (w.getD k [])) [] [])) ⟨?_,?_⟩
   ·exact⟨x5_ h22,ard_ h22,Nat.le_refl _⟩
   refine Can.trans (Can.leAt 19 ([[.i .i64 1,.i .i64 (am_ (w.getD k [])),.s [],.sl false []]]) (by simp only[go_sem,seval,e0]<;>rfl) (by simp only[go_sem,seval,e0,ler,les,leV]<;>(first|trivial|simp)) (by simp only[go_sem,seval,e0]<;>rfl)) ?_
   exact Can.wl (h:=by simp only[go_sem,seval,e0,av_,leV,as_,au_,V.inn,us,true_or,or_true]<;>(first|rfl|(obtain⟨b,hb1,hb2⟩:=oo_ h59;rw[hb1];have hbl:=hB b hb1;exact jz_ (b+1) (by omega)))) (hi:=by simp only[go_sem,seval,e0,av_,leV,as_,au_,V.inn,us,true_or,or_true]) (hL:=by simp only[go_sem,seval,e0,av_,leV,as_,au_,V.inn,us,true_or,or_true]<;>((try rfl)))
  refine .seq (.rg [ab_ (p6_ (w.getD k []) (by omega))] ?_ (h:=by simp only[go_sem,seval,e0];rfl))
  refine .cB (fun h32=>?_) (fun h32=>?_) (hc:=by simp only[go_sem,seval,e0];rfl) (hp:=by simp only[go_sem,seval,e0])
  ·refine .rg [] ?_ (h:=by simp only[go_sem,seval,e0];rfl)
   refine Exists.intro ((k+1,.mk 2 0 (w.getD k []) [])) ⟨?_,?_⟩
   ·exact⟨uv_ h22 h32,a0f_ h32,Nat.le_refl _⟩
   refine Can.trans (Can.leAt 19 ([[.i .i64 2,.i .i64 0,.s (w.getD k []),.sl false []]]) (by simp only[go_sem,seval,e0]<;>rfl) (by simp only[go_sem,seval,e0,ler,les,leV]<;>(first|trivial|simp)) (by simp only[go_sem,seval,e0]<;>rfl)) ?_
   exact Can.wl (h:=by simp only[go_sem,seval,e0,av_,leV,as_,au_,V.inn,us,true_or,or_true]<;>(first|rfl|(obtain⟨b,hb1,hb2⟩:=oo_ h59;rw[hb1];have hbl:=hB b hb1;exact jz_ (b+1) (by omega)))) (hi:=by simp only[go_sem,seval,e0,av_,leV,as_,au_,V.inn,us,true_or,or_true]) (hL:=by simp only[go_sem,seval,e0,av_,leV,as_,au_,V.inn,us,true_or,or_true]<;>((try rfl)))
  refine .seq (.rg [] ?_ (h:=by simp only[go_sem,seval,e0];rfl))
  refine .cB (fun h37=>?_) (fun h37=>?_) (hc:=by simp only[go_sem,seval,e0];rfl) (hp:=by simp only[go_sem,seval,e0])
  ·refine .seq (.rgo [a0_ (k<w.length∧0<d) L] ?_ ?_ (h:=by simp only[go_sem,seval,e0,ac_ (show -9223372036854775808≤d - 1 by omega) (by omega)];rfl))
   ·(rw[Bool.and_eq_true]at h37;have hin:k<w.length:=j4_ (by rw[beq_iff_eq.1 h37.1];simp);first|exact⟨hin,of_decide_eq_true h37.2⟩|(refine⟨?_,hin,of_decide_eq_true h37.2⟩;first|rfl|exact jz_ _ (by omega)))
   refine .seq (.seq (.rg [ab_ (lg_ w (oN (sL1 n w (k+1) (d - 1)).2))] ?_ (h:=by simp only[go_sem,seval,e0];rfl)))
   refine .cB (fun h59=>?_) (fun h59=>?_) (hc:=by simp only[go_sem,seval,e0];rfl) (hp:=by simp only[go_sem,seval,e0])
   ·refine .seq (.rg [] ?_ (h:=by simp only[go_sem,seval,e0];rfl))
    refine .ret ⟨.inr rfl,?_⟩
    exact Out.plL (by simp only[Tryz.results309];rfl) (by simp only[ba_,go_sem,seval,e0]<;>(rw[Bool.and_eq_true]at h37;rw[aol_ h22 h32 ⟨beq_iff_eq.1 h37.1,of_decide_eq_true h37.2⟩ (awj_ h59)];exact⟨⟨rfl,rfl,rfl,ad_ _⟩,rfl⟩)) (h1:=by simp only[a1_,bn_,go_sem,seval,e0]<;>(split<;>rfl)) (h3:=by simp only[go_sem,seval,e0])
   refine .skip (.seq (.rg [] ?_ (h:=by simp only[go_sem,seval,e0];rfl)))
   refine .rg [] ?_ (h:=by simp only[go_sem,seval,e0];rfl)
   refine Exists.intro (((sL1 n w (k+1) (d - 1)).2.getD 0+1,(sL1 n w (k+1) (d - 1)).1)) ⟨?_,?_⟩
   ·(obtain⟨b,hb1,hb2⟩:=oo_ h59;rw[Bool.and_eq_true]at h37;have hbl:=hB b hb1;have hin:b<w.length:=j4_ (by rw[hb2];simp);exact⟨by dsimp only;rw[hb1];show e2_ (n+1) w k d=sAs n w (b+1) (sL1 n w (k+1) (d - 1)).1;exact zp_ (beq_iff_eq.1 h37.1) (of_decide_eq_true h37.2) (show sL1 n w (k+1) (d - 1)=((sL1 n w (k+1) (d - 1)).1,some b) by rw[←hb1]) hb2,by dsimp only;rw[hb1];exact hin,by dsimp only;rw[hb1];show k+1≤b+1;omega⟩)
   exact Can.wl (h:=by simp only[go_sem,seval,e0,av_,leV,as_,au_,V.inn,us,true_or,or_true]<;>((obtain⟨b,hb1,hb2⟩:=oo_ h59;rw[hb1];have hbl:=hB b hb1;exact jz_ (b+1) (by omega)))) (hi:=by simp only[go_sem,seval,e0,av_,leV,as_,au_,V.inn,us,true_or,or_true]) (hL:=by simp only[go_sem,seval,e0,av_,leV,as_,au_,V.inn,us,true_or,or_true]<;>((try rfl)))
  refine .seq (.rg [] ?_ (h:=by simp only[go_sem,seval,e0];rfl))
  refine .ret ⟨.inr rfl,?_⟩
  exact Out.plL (by simp only[Tryz.results309];rfl) (by simp only[ba_,go_sem,seval,e0]<;>(rw[apd_ h22 h32 (fun e=>by rw[e.1,decide_eq_true (show d > 0 from e.2)]at h37;simp at h37)];exact⟨⟨rfl,rfl,rfl,ad_ _⟩,rfl⟩)) (h1:=by simp only[a1_,bn_,go_sem,seval,e0]<;>(split<;>rfl)) (h3:=by simp only[go_sem,seval,e0])
 refine .seq (.block (.loopK (fun q:Nat × Nat × E=>⟨[.sl false (ai_ w),.no,.no,.no,.no,.no,.pt 16 4 0 0,.no,.no,.pt 19 4 0 0,.i .i64 q.2.1,.no,.no,.no,.no,.no,.no,.no,.no,.no,.no,.no,.no,.no,.no,.no,.no,.no,.no,.no,.no,.no,.no,.no,.no,.no,.no,.no,.no,.no,.no,.no,.no,.no,.no,.no,.no,.no,.no,.no,.no,.no,.no,.no,.no,.no,.no,.no,.no,.no,.no,.no,.no,.no,.no,.no,.no,.no,.no,.no,.no,.no,.no,.no,.no,.no,.no,.no,.no,.no,.no,.no,.no,.no,.no,.no,.no],ae_ [(16,⟨56,4,[[.i .i64 0,.i .i64 0,.s [],.sl true []]]⟩),(19,⟨56,4,[eC q.2.2]⟩)],us [16,19]⟩) (fun q:Nat × Nat × E=>e2_ (n+1) w k d=sAs q.1 w q.2.1 q.2.2∧q.2.1≤w.length∧10 * (w.length - q.2.1)+1≤q.1) (fun q:Nat × Nat × E=>w.length - q.2.1) ((n,p.1,p.2)) ?_ ?_ (fun q hI=>?_)))
 ·exact⟨hJ.1,hJ.2.1,by dsimp only;omega⟩
 ·exact Can.wl (h:=by simp only[go_sem,seval,e0,av_,leV,as_,au_,V.inn,us,true_or,or_true]<;>((try simp))) (hi:=by simp only[go_sem,seval,e0,av_,leV,as_,au_,V.inn,us,true_or,or_true]) (hL:=by simp only[go_sem,seval,e0,av_,leV,as_,au_,V.inn,us,true_or,or_true]<;>((try simp)))
 refine .seq (.seq (.rg [ab_ (lg_ w (q.2.1:Int))] ?_ (h:=by simp only[go_sem,seval,e0];rfl)))
 refine .cB (fun h67=>?_) (fun h67=>?_) (hc:=by simp only[go_sem,seval,e0];rfl) (hp:=by simp only[go_sem,seval,e0])
 ·refine .skip (.block (.seq (.seq (.rg [ab_ (lg_ w ((q.2.1+1:Nat):Int)),ab_ (p7_ (w.getD (q.2.1+1) []))] ?_ (h:=by simp only[go_sem,seval,e0,jz_ (q.2.1+1) (by omega),show((q.2.1:Int)+1)=((q.2.1+1:Nat):Int)from rfl];rfl)))))
  refine .cB (fun h73=>?_) (fun h73=>?_) (hc:=by simp only[go_sem,seval,e0];rfl) (hp:=by simp only[go_sem,seval,e0])
  ·refine .seq (.rg [] ?_ (h:=by simp only[go_sem,seval,e0];rfl))
   refine .ret ⟨.inr rfl,?_⟩
   exact Out.plL (by simp only[Tryz.results309];rfl) (by simp only[ba_,go_sem,seval,e0]<;>(obtain⟨i,hi⟩:∃i,q.1=i+1:=⟨q.1 - 1,by omega⟩;rw[hI.1,hi,ax1_ (beq_iff_eq.1 h67) (by simpa only[Bool.not_eq_true']using h73)];exact⟨⟨rfl,rfl,rfl,ad_ _⟩,rfl⟩)) (h1:=by simp only[a1_,bn_,go_sem,seval,e0]<;>(split<;>rfl)) (h3:=by simp only[go_sem,seval,e0])
  refine .skip (.seq (.rgDo [] ?_ ?_ (h:=by simp only[go_sem,seval,e0,jz_ (q.2.1+1) (by omega),show((q.2.1:Int)+1)=((q.2.1+1:Nat):Int)from rfl,an_ (show q.2.1+1<w.length from vc_ (by simpa using h73))];rfl)))
  ·(have ht:=vc_ (w:=w) (k:=q.2.1+1) (by simpa only[Bool.not_eq_false']using h73);simp[c7_];omega)
  refine .rg [] ?_ (h:=by simp only[go_sem,seval,e0];rfl)
  refine Exists.intro ((q.1 - 1,q.2.1+2,.mk 4 0 (w.getD (q.2.1+1) []) [q.2.2])) ⟨?_,?_,?_⟩
  ·have ht:=vc_ (w:=w) (k:=q.2.1+1) (by simpa only[Bool.not_eq_false']using h73);obtain⟨i,hi⟩:∃i,q.1=i+1:=⟨q.1 - 1,by omega⟩;exact⟨by rw[hI.1,hi];exact a3e_ (beq_iff_eq.1 h67) (by simpa only[Bool.not_eq_false']using h73),by dsimp only;omega,by dsimp only;omega⟩
  ·have ht:=vc_ (w:=w) (k:=q.2.1+1) (by simpa only[Bool.not_eq_false']using h73);dsimp only;omega
  refine Can.trans (Can.leAt 19 ([[.i .i64 4,.i .i64 0,.s (w.getD (q.2.1+1) []),.sl false [eC q.2.2]]]) (by simp only[go_sem,seval,e0]<;>rfl) (by simp only[go_sem,seval,e0,ler,les,leV]<;>(first|trivial|simp)) (by simp only[go_sem,seval,e0]<;>rfl)) ?_
  exact Can.wl (h:=by simp only[go_sem,seval,e0,av_,leV,as_,au_,V.inn,us,true_or,or_true]<;>(exact jz_ (q.2.1+2) (by omega))) (hi:=by simp only[go_sem,seval,e0,av_,leV,as_,au_,V.inn,us,true_or,or_true]) (hL:=by simp only[go_sem,seval,e0,av_,leV,as_,au_,V.inn,us,true_or,or_true]<;>(simp[E.kind,E.n,E.s,E.kids,eR,dz_]))
 refine .exit (.seq (.rg [] ?_ (h:=by simp only[go_sem,seval,e0];rfl)))
 refine .ret ⟨.inr rfl,?_⟩
 exact Out.plL (by simp only[Tryz.results309];rfl) (by simp only[ba_,go_sem,seval,e0]<;>(obtain⟨i,hi⟩:∃i,q.1=i+1:=⟨q.1 - 1,by omega⟩;rw[hI.1,hi,a1l_ (fun e=>by rw[e]at h67;simp[wAs]at h67)];exact⟨⟨rfl,rfl,rfl,ad_ _⟩,rfl⟩)) (h1:=by simp only[a1_,bn_,go_sem,seval,e0]<;>(split<;>rfl)) (h3:=by simp only[go_sem,seval,e0])
end
section
def nx (o:Option Nat):Nat:=o.getD 0
theorem og_ {w:List Str} {o:Option Nat} {t:Nat} (ht:1≤t) (h:((decide (oN o ≥ 0)&&lvl (.mk 3 0 (atI w (oN o)) [])==(t:Int))&&fn_ (atI w (oN o)))=true):∃b,o=some b∧b<w.length∧ak_ (w.getD b [])=t:=by
 cases o with
 |none=>exact absurd h (by simp[oN])
 |some b=>
  have h':((decide ((b:Int) ≥ 0)&&lvl (.mk 3 0 (atI w (b:Int)) [])==(t:Int))&&fn_ (atI w (b:Int)))=true:=h
  rw[jp_,Bool.and_eq_true,Bool.and_eq_true,beq_iff_eq]at h'
  have hb:b<w.length:=j4_ fun e=>by rw[e]at h';exact absurd h'.2 (by decide)
  have:=xd_ (e:=.mk 3 0 (w.getD b []) []) rfl h'.2
  exact⟨b,rfl,hb,this.symm.trans h'.1.2⟩
theorem a21_ {w:List Str} {o:Option Nat} {t j:Nat} {d:Int} {e:E} (ht:1≤t) (h:((decide (oN o ≥ 0)&&lvl (.mk 3 0 (atI w (oN o)) [])==(t:Int))&&fn_ (atI w (oN o)))=false):e0_ (j+1) w t d e o=(e,o):=by
 cases o with
 |none=>simp only[e0_]
 |some b=>
  refine e7_ fun q=>?_
  have h':((decide ((b:Int) ≥ 0)&&lvl (.mk 3 0 (atI w (b:Int)) [])==(t:Int))&&fn_ (atI w (b:Int)))=false:=h
  rw[jp_]at h'
  have ho:fn_ (w.getD b [])=true:=by
   rw[←z4_];simp only[decide_eq_true_eq];omega
  have hl:=xd_ (e:=.mk 3 0 (w.getD b []) []) rfl ho
  have hl2:lvl (.mk 3 0 (w.getD b []) [])=(t:Int):=hl.trans q
  rw[hl2,ho,decide_eq_true (show((b:Int) ≥ 0) by omega)]at h'
  simp at h'
theorem avi_ {n:Nat} {w:List Str} {t:Nat} {d:Int} {e:E} {b:Nat} (h:ak_ (w.getD b [])=t):e0_ (n+1) w t d e (some b)=e0_ n w t d (.mk 3 0 (w.getD b []) [e,(sLp n w (b+1) (t+1) d).1]) (sLp n w (b+1) (t+1) d).2:=by rw[e0_,if_pos h]
def mz (L:Nat):Option Nat→Nat
 |none=>0
 |some b=>L+1 - b
def LpI (w:List Str) (t:Nat) (d:Int) (n:Nat) (r:E × Option Nat) (q:Nat × E × Option Nat):Prop:=
 r=e0_ q.1 w t d q.2.1 q.2.2∧1≤q.1∧q.1≤n∧t<4∧∀b,q.2.2=some b→b≤w.length∧10 * (w.length - b)+1≤q.1
theorem ayq_ {w:List Str} (hw:smW w) {n k t:Nat} {d:Int} (t4:t<4) (hn:10 * (w.length - k)+10 - t≤n+1):LpI w t d n (sLp (n+1) w k t d) (n,(sLp n w k (t+1) d).1,(sLp n w k (t+1) d).2):=by
 refine⟨?_,by omega,Nat.le_refl _,t4,fun b hb=>?_⟩
 ·dsimp only;rw[sLp,if_neg (by omega)]
 have:=((ub_ w hw n).2.1 k (t+1) d).2 b hb
 dsimp only;omega
theorem t7_ {w:List Str} (hw:smW w) {n t:Nat} {d:Int} {r:E × Option Nat} {q:Nat × E × Option Nat} (h:LpI w t d n r q) (ht:1≤t) (hc:((decide (oN q.2.2 ≥ 0)&&lvl (.mk 3 0 (atI w (oN q.2.2)) [])==(t:Int))&&fn_ (atI w (oN q.2.2)))=true) :
  LpI w t d n r (q.1 - 1,.mk 3 0 (w.getD (nx q.2.2) []) [q.2.1,(sLp (q.1 - 1) w (nx q.2.2+1) (t+1) d).1],(sLp (q.1 - 1) w (nx q.2.2+1) (t+1) d).2)∧mz w.length (sLp (q.1 - 1) w (nx q.2.2+1) (t+1) d).2<mz w.length q.2.2∧
  (q.1≤n∧nx q.2.2<w.length∧10 * (w.length - nx q.2.2)+1≤q.1∧t<4):=by
 obtain⟨b,hb,hin,hti⟩:=og_ ht hc
 obtain⟨h1,h2,h3,h4,h5⟩:=h
 have hq:=h5 b hb
 have hn:nx q.2.2=b:=by rw[hb];rfl
 rw[hn]
 obtain⟨i,hi⟩:∃i,q.1=i+1:=⟨q.1 - 1,by omega⟩
 have hi':q.1 - 1=i:=by omega
 have hs:=fun b' hb'=>((ub_ w hw (q.1 - 1)).2.1 (b+1) (t+1) d).2 b' hb'
 refine⟨⟨?_,?_,?_,h4,fun b' hb'=>?_⟩,?_,h3,hin,hq.2,h4⟩
 ·rw[h1,hb,hi,avi_ hti];rfl
 ·dsimp only;omega
 ·dsimp only;omega
 ·have:=hs b' hb';dsimp only;omega
 cases ho:(sLp (q.1 - 1) w (b+1) (t+1) d).2 with
 |none=>rw[hb];simp only[mz];omega
 |some b'=>have:=hs b' ho;rw[hb];simp only[mz];omega
theorem azv_ {w:List Str} {n t:Nat} {d:Int} {r:E × Option Nat} {q:Nat × E × Option Nat} (h:LpI w t d n r q) (ht:1≤t) (hc:((decide (oN q.2.2 ≥ 0)&&lvl (.mk 3 0 (atI w (oN q.2.2)) [])==(t:Int))&&fn_ (atI w (oN q.2.2)))=false):r=q.2:=by
 obtain⟨h1,h2, -⟩:=h
 obtain⟨i,hi⟩:∃i,q.1=i+1:=⟨q.1 - 1,by omega⟩
 rw[h1,hi,a21_ ht hc]
attribute [local go_sem] af_ ah_ dz_ in
theorem anx_ (w:List Str) (hw:smW w) (hl:w.length≤1000000) (n:Nat) (ihA:∀j,j<n+1→ai9_ w j) (ihL:∀j,j<n+1→LpOk w j):LpOk w (n+1):=fun k t d d0 d5 t2 t4 hk hn=>by
 have hB:=(ub_ w hw n).2.1
 have A:=fun(h:t=4)=>ihA n (by omega) k d d0 d5 hk (by omega)
 have L:=fun(h:t<4)=>ihL n (by omega) k (t+1) d d0 d5 (by omega) (by omega) hk (by omega)
 have L2:=fun(j b:Nat) (h:j≤n∧b<w.length∧10 * (w.length - b)+1≤j∧t<4)=>ihL (j - 1) (by omega) (b+1) (t+1) d d0 d5 (by omega) (by omega) (by omega) (by omega)
 refine aa_ [] Tryz.func284 Tryz.ntmps284 fun C=>?_
 refine .seq (.rg [] ?_)
 refine .seq (.seq (.rg [] ?_))
 refine .cB (fun h15=>?_) fun h15=>?_
 ·refine .seq (.rgo [a0_ (t=4) A] ?_ ?_)
  ·((have h3:=of_decide_eq_true h15;omega))
  refine .ret ⟨.inr rfl,Out.pQ Tryz.results284 ?_⟩;have h3:=of_decide_eq_true h15;rw[sLp,if_pos (by omega)];exact⟨⟨rfl,rfl,rfl,ad_ _⟩,rfl⟩
 refine .skip (.seq (.rgo [a0_ (t<4) L] ?_ ?_ (h:=by simp only[go_sem,seval,jz_ (t+1) (by omega),show((t:Int)+1)=((t+1:Nat):Int)from rfl];rfl)))
 ·((have h3:=of_decide_eq_false h15;omega))
 refine .seq (.block (.loopK (fun q:Nat × E × Option Nat=>⟨[.sl false (ai_ w),.no,.i .i64 t,.i .i64 d,.no,.no,.no,.no,.pt 18 4 0 0,.no,.pt 20 4 0 0,.i .i64 (oN q.2.2),.no,.no,.no,.no,.no,.no,.no,.no,.no,.no,.no,.no,.no,.no,.no,.no,.no,.no,.no,.no,.no,.no,.no,.no,.no,.no,.no,.no,.no,.no,.no,.no,.no,.no,.no,.no,.no,.no,.no,.no,.no,.no,.no,.no,.no,.no,.no,.no,.no,.no,.no,.no,.no,.no,.no,.no,.no],ae_ [(18,⟨56,4,[[.i .i64 0,.i .i64 0,.s [],.sl true []]]⟩),(20,⟨56,4,[eC q.2.1]⟩)],us [18,20]⟩) (fun q:Nat × E × Option Nat=>LpI w t d n (sLp (n+1) w k t d) q) (fun q:Nat × E × Option Nat=>mz w.length q.2.2) ((n,(sLp n w k (t+1) d).1,(sLp n w k (t+1) d).2)) ?_ ?_ (fun q hI=>?_)))
 ·have h3:=of_decide_eq_false h15;exact ayq_ hw (by omega) hn
 ·refine Can.wk ?_ ?_
  ·trivial
  trivial
 refine .seq (.seq (.rgo [ab_ (lg_ w (oN q.2.2)),ab_ (rm_ (.mk 3 0 (atI w (oN q.2.2)) [])),ab_ (lg_ w (oN q.2.2)),ab_ (arv_ (atI w (oN q.2.2)))] ?_ ?_))
 ·(exact⟨fun h=>⟨h,rfl⟩,fun h=>⟨h,rfl,rfl,rfl,ad_ _⟩⟩)
 refine .cB (fun h47=>?_) fun h47=>?_
 ·refine .skip (.block (.seq (.rgo [a0_ (q.1≤n∧nx q.2.2<w.length∧10 * (w.length - nx q.2.2)+1≤q.1∧t<4) (L2 q.1 (nx q.2.2))] ?_ ?_ (h:=by simp only[go_sem,seval,jz_ (t+1) (by omega),show((t:Int)+1)=((t+1:Nat):Int)from rfl,show oN q.2.2=(nx q.2.2:Int) by(obtain⟨b,hb,_⟩:=og_ (by omega) h47;rw[hb];rfl),jz_ (nx q.2.2+1) (by(obtain⟨b,hb,hb2,_⟩:=og_ (by omega) h47;rw[hb];show b+1≤_;omega)),show((nx q.2.2:Int)+1)=((nx q.2.2+1:Nat):Int)from rfl];rfl))))
  ·(exact(t7_ hw hI (by omega) h47).2.2)
  refine .seq (.rgDo [] ?_ ?_ (h:=by simp only[go_sem,seval,show oN q.2.2=(nx q.2.2:Int) by(obtain⟨b,hb,_⟩:=og_ (by omega) h47;rw[hb];rfl),an_ (show nx q.2.2<w.length by(obtain⟨b,hb,hb2,_⟩:=og_ (by omega) h47;rw[hb];exact hb2))];rfl))
  ·((have h3:=(t7_ hw hI (by omega) h47).2.2;exact⟨⟨by omega,by omega⟩,rfl⟩))
  refine .rg [] ?_
  refine Exists.intro ((q.1 - 1,.mk 3 0 (w.getD (nx q.2.2) []) [q.2.1,(sLp (q.1 - 1) w (nx q.2.2+1) (t+1) d).1],(sLp (q.1 - 1) w (nx q.2.2+1) (t+1) d).2)) ⟨?_,?_,?_⟩
  ·exact(t7_ hw hI (by omega) h47).1
  ·exact(t7_ hw hI (by omega) h47).2.1
  refine Can.trans (Can.leAt 20 ([[.i .i64 3,.i .i64 0,.s (w.getD (nx q.2.2) []),.sl false [eC q.2.1,eC (sLp (q.1 - 1) w (nx q.2.2+1) (t+1) d).1]]]) (by simp only[go_sem,seval]<;>rfl) (by simp only[go_sem,seval,ler,les,leV]<;>(first|trivial|simp)) (by simp only[go_sem,seval]<;>rfl)) ?_
  refine Can.wk ?_ ?_
  ·trivial
  simp[E.kind,E.n,E.s,E.kids,eR,dz_]
 refine .exit (.seq (.rg [] ?_))
 refine .ret ⟨.inr rfl,Out.pQ Tryz.results284 ?_⟩;rw[azv_ hI (by omega) h47];exact⟨⟨rfl,rfl,rfl,ad_ _⟩,rfl⟩
end
section
attribute [local go_sem] aw_ a5_ dp_ in
theorem aa8_ (e:E) (h:eok e=true) (hs:sm e=true):ACall En 256 [.ag (eC e)] [] [.sl false (ai_ (wds e 1))] []:=by
 have hf:=ao_ h
 have hm:many e ((5:Nat):Int)≤12:=kh_ h
 have hw:=cw_ 5 e 0 hf
 have W:ACall En 202 [.ag (eC e),.i .i64 0,.pt 0 1 0 0] [⟨3,1,[[.i .i64 0]]⟩] [.sl false (wdR (src e 0 0))] [⟨3,1,[[.i .i64 (0+cnt e)]]⟩]:=
  ACall.frzL (Lr:=[⟨3,1,[[.i .i64 (0+cnt e)]]⟩]) (oq_ 5 e 0 0 hf hs (by omega) (by decide) (by omega) (by decide)) (by simp) (by simp[er_,frz,ci_,List.take_of_length_le])
 have hl:(src e 0 0).length≤1000000:=by rw[show(src e 0 0).length=(wds e 0).length by rw[←eu_ e 0 0,List.length_map]];omega
 refine aa_ [] Tryz.func256 Tryz.ntmps256 fun C=>?_
 refine .seq (.rg [] ?_)
 refine .seq (.seq (.rg [ab_ (hk_ e hs)] ?_))
 refine .cB (fun h6=>?_) fun h6=>?_
 ·simp[h]at h6
 refine .skip (.seq (.rg [] ?_))
 refine .seq (.rg [at_ [13] [] W,ab_ (ls_ (src e 0 0) hl)] ?_)
 refine .ret ⟨.inr rfl,Out.pP Tryz.results256 ?_⟩;rw[eu_,fa_ hf]
theorem aog_ {a b:List Str} {k:Nat} (ha:k<a.length) (hb:k<b.length) (h:a.take k=b.take k) (e:a.getD k []=b.getD k []):a.take (k+1)=b.take (k+1):=by
 rw[List.take_add_one (l:=a),List.take_add_one (l:=b),h,List.getElem?_eq_getElem ha,List.getElem?_eq_getElem hb]
 rw[List.getD_eq_getElem?_getD,List.getD_eq_getElem?_getD,List.getElem?_eq_getElem ha,List.getElem?_eq_getElem hb]at e
 rw[show a[k]=b[k] by simpa using e]
attribute [local go_sem] af_ ah_ in
theorem ax4_ (a b:List Str) (ha:a.length≤1000000000000) (hb:b.length≤1000000000000):ACall En 255 [.sl false (ai_ a),.sl false (ai_ b)] [] [.b (a==b)] []:=by
 refine aa_ [] Tryz.func255 Tryz.ntmps255 fun C=>?_
 refine .seq (.rg [] ?_)
 refine .seq (.seq (.rg [] ?_))
 refine .cB (fun h10=>?_) fun h10=>?_
 ·refine .seq (.rg [] ?_)
  refine .ret ⟨.inr rfl,Out.pP Tryz.results255 ?_⟩;have:a≠b:=(fun e=>by simp[e]at h10);simp[this]
 refine .skip (.seq (.seq (.rg [] ?_)))
 refine .block (.loopK (fun k:Nat=>⟨[.sl false (ai_ a),.sl false (ai_ b),.no,.no,.no,.no,.no,.no,.no,.no,.no,.no,.i .i64 a.length,.i .i64 k,.no,.no,.no,.no,.no,.no,.no,.no,.no,.no,.no,.no],ae_ [],us []⟩) (fun k:Nat=>k≤a.length∧a.take k=b.take k) (fun k:Nat=>a.length - k) (0) ?_ ?_ (fun k hI=>?_))
 ·exact⟨Nat.zero_le _,rfl⟩
 ·refine Can.wh ?_;trivial
 refine .seq (.rg [] ?_)
 refine .seq (.cB (fun h14=>?_) fun h14=>?_)
 ·refine .skip (.seq (.block (.seq (.rg [] ?_))))
  refine .seq (.rgDo [] ?_ ?_ (h:=by simp only[go_sem,seval,an_ (show k<a.length by simpa using h14),an_ (show k<b.length by simp at h14 h10;omega)];rfl))
  ·simp at h14 h10;simp;omega
  refine .cB (fun h24=>?_) fun h24=>?_
  ·refine .seq (.rg [] ?_)
   refine .ret ⟨.inr rfl,Out.pP Tryz.results255 ?_⟩;have:a≠b:=(fun e=>by simp[e]at h24);simp[this]
  refine .skip (.rg [] ?_)
  refine⟨k+1,?_,?_,?_⟩
  ·simp only[decide_eq_true_eq]at h14;simp at h10;exact⟨by omega,aog_ (by omega) (by omega) hI.2 (by simpa using h24)⟩
  ·simp at h14;omega
  refine Can.wh ?_;rw[ac_ (by simp at h14;omega) (by simp at h14;omega)];simp
 refine .exit (.seq (.rg [] ?_))
 refine .ret ⟨.inr rfl,Out.pP Tryz.results255 ?_⟩;simp only[decide_eq_false_iff_not]at h14;simp at h10;have q:=hI.2;rw[List.take_of_length_le (by omega),List.take_of_length_le (by omega)]at q;simp[q]
def jn_ (w:List Str):Bool:=(ew_ w).isSome
attribute [local go_sem] aw_ a5_ af_ ah_ in
theorem d9_ (w:List Str) (hw:smW w) (hl:w.length≤1000000):ACall En 195 [.sl false (ai_ w)] [] [.ag (eC (ex w)),.b (jn_ w)] []:=by
 have hR:w.length≤40→ACall En 254 [.pt 0 3 0 0,.i .i64 ((1:Nat):Int)] [rsB ⟨w,false,0⟩] [.ag (eC (b4_ 500 1 ⟨w,false,0⟩).1)] [rsB (b4_ 500 1 ⟨w,false,0⟩).2]:=fun h=>(arw_ 500).1 1 ⟨w,false,0⟩ (by decide) ⟨hw,Int.le_refl _,by dsimp only;omega⟩ (by dsimp only;omega)
 have hS:=((i_sm 500).1 1 ⟨w,false,0⟩ hw).1
 have hE:ew_ w=if w.length≤40 then(if ((b4_ 500 1 ⟨w,false,0⟩).2.bad||!(b4_ 500 1 ⟨w,false,0⟩).2.left.isEmpty||!eok (b4_ 500 1 ⟨w,false,0⟩).1||!(wds (b4_ 500 1 ⟨w,false,0⟩).1 1==w))then none else some (b4_ 500 1 ⟨w,false,0⟩).1)else none:=rfl
 have hL:=(akm_ 500).1 1 ⟨w,false,0⟩
 generalize b4_ 500 1 ⟨w,false,0⟩=q at *
 have hq:(!q.2.left.isEmpty)=decide ((q.2.left.length:Int) > 0):=by cases q.2.left<;>simp
 rw[hq]at hE
 have n1:decide ((w.length:Int) > 40)=true→ew_ w=none:=fun h=>by rw[hE,if_neg (by simp at h;omega)]
 have n2:decide ((w.length:Int) > 40)=false→(q.2.bad||decide ((q.2.left.length:Int) > 0)||!eok q.1||!(wds q.1 1==w))=true→ew_ w=none:=fun h h2=>by rw[hE,if_pos (by simp at h;omega),if_pos h2]
 have n3:decide ((w.length:Int) > 40)=false→(q.2.bad||decide ((q.2.left.length:Int) > 0)||!eok q.1||!(wds q.1 1==w))=false→ew_ w=some q.1:=fun h h2=>by rw[hE,if_pos (by simp at h;omega),h2];rfl
 refine aa_ [] Tryz.func195 Tryz.ntmps195 fun C=>?_
 refine .seq (.rg [] ?_)
 refine .seq (.seq (.rg [] ?_))
 refine .cB (fun h8=>?_) fun h8=>?_
 ·refine .seq (.rg [] ?_)
  refine .ret ⟨.inr rfl,Out.pQ Tryz.results195 ?_⟩;simp[ex,jn_,n1 h8,E0,E.kind,E.n,E.s,E.kids,eR,ler]
 refine .skip (.seq (.rg [] ?_))
 refine .seq (.rg [at_ [22] [] (hR (by simp at h8;omega))] ?_)
 refine .seq (.seq (.rgo [ab_ (hk_ q.1 hS),a0_ (eok q.1=true) (fun h=>aa8_ q.1 h hS),a0_ (eok q.1=true) (fun h=>ax4_ (wds q.1 1) w (by have:=(bk_ h 1).2.1;omega) (by omega))] ?_ ?_))
 ·(have key:∀x:Bool,x=false→(!x)=true:=(fun x h=>by rw[h];rfl));exact⟨⟨⟨⟨key _,key _⟩,fun h=>⟨h,by simp at h;exact h.2⟩⟩,fun h=>⟨h,by simp at h;exact h.2⟩⟩,key _⟩
 refine .cB (fun h38=>?_) fun h38=>?_
 ·refine .seq (.rg [] ?_)
  refine .ret ⟨.inr rfl,Out.pQ Tryz.results195 ?_⟩;simp[ex,jn_,n2 h8 h38,E0,E.kind,E.n,E.s,E.kids,eR,ler]
 refine .skip (.seq (.rg [] ?_))
 refine .ret ⟨.inr rfl,Out.pQ Tryz.results195 ?_⟩;simp[ex,jn_,n3 h8 h38,ad_]
end
section
theorem m3_ (l:List Str) (k:Nat):(ai_ l).drop k=ai_ (l.drop k):=by simp[ai_,List.map_drop]
theorem m5_ (l:List Str) (k:Nat):(ai_ l).take k=ai_ (l.take k):=by simp[ai_,List.map_take]
theorem bv_ {l:List Str} (h:smW l) (k:Nat):smW (l.drop k):=fun w hw=>h w (List.mem_of_mem_drop hw)
theorem hz_ {l:List Str} (h:smW l) (k:Nat):smW (l.take k):=fun w hw=>h w (List.mem_of_mem_take hw)
def be_ (s:Str):List Str:=((az_ s).getD []).map (·.s)
theorem r7_:∀(n:Nat) (l:Str) (c:Int) (t:List Tk),fp_ n l c=some t→t.length≤l.length
 |0,l,c,t,h=>by simp[fp_]at h;subst h;simp
 |n+1,[],c,t,h=>by simp[fp_]at h;subst h;simp
 |n+1,x::l,c,t,h=>by
  simp only[fp_]at h
  split at h
  ·have:=r7_ n l _ t h;simp only[List.length_cons];omega
  split at h
  ·cases h
  obtain⟨u,hu,rfl⟩:=Option.map_eq_some_iff.1 h
  have h1:=r7_ n _ _ u hu
  have h2:=pj_ (x::l)
  rw[List.length_drop]at h1
  simp only[List.length_cons]at h1 ⊢;omega
theorem uu_ (s:Str):((az_ s).getD []).length≤120:=by
 cases h:az_ s with
 |none=>simp
 |some t=>
  unfold az_ at h
  split at h
  ·cases h
  have:=r7_ _ _ _ _ h;simp only[Option.getD_some];omega
theorem qh_ (b:Bl):bu_ (bC b)=true:=by rw[cp_];simp only[bu_,V.pure,hr_,Bool.and_self]
theorem ti_ (l:List Str) (s:Str) : -1≤bh_ l s∧bh_ l s<l.length:=by
 unfold bh_
 split
 ·rename_i h
  have:=List.idxOf_lt_length_iff.2 h
  omega
 omega
attribute [local go_sem] hs_ gv_ j2_ gm_ in
theorem x3_ (s:Str) (hs:s.length≤281474976710656):ACall En 128 [.s s] [] [.sl false (ai_ (be_ s)),.b (az_ s).isSome] []:=by
 have T:=x9_ s hs
 have hb:=uu_ s
 unfold be_
 generalize (az_ s).getD []=ts at *
 have hp:∀k,bg_ (fi_ (ai_ (ts.map (·.s))) [.s []] k)=true:=fun k=>iq_ (ah_ _) rfl
 have hll:(ai_ (ts.map (·.s))).length=ts.length:=by simp[ai_]
 refine aa_ [] Tryz.func128 Tryz.ntmps128 fun C=>?_
 refine .seq (.rg [] ?_ (h:=by simp only[go_sem,seval,hp,hll];rfl))
 refine .seq (.rg [ab_ T] ?_ (h:=by simp only[go_sem,seval,hp,hll];rfl))
 refine .seq (.rgo [] ?_ ?_ (h:=by simp only[go_sem,seval,hp,hll];rfl))
 ·simp;omega
 refine .seq (.seq (.rg [] ?_ (h:=by simp only[go_sem,seval,hp,hll];rfl)))
 refine .block (.loopK (fun k:Nat=>⟨[.no,.no,.no,.no,.no,.b (az_ s).isSome,.ow 26 1 0 ts.length,.no,.no,.no,.no,.no,.no,.no,.no,.no,.no,.sl false (tkR ts),.i .i64 ts.length,.i .i64 k,.no,.no,.no,.no,.no,.no,.no,.no,.no,.no,.no,.no],ae_ [(26,⟨9,1,fi_ (ai_ (ts.map (·.s))) [.s []] k⟩)],us [26]⟩) (fun k:Nat=>k≤ts.length) (fun k:Nat=>ts.length - k) (0) ?_ ?_ (fun k hI=>?_))
 ·simp
 ·exact Can.wl (h:=by simp only[go_sem,seval,hp,hll,av_,leV,as_,au_,V.inn,us,true_or,or_true]<;>(simp)) (hi:=by simp only[go_sem,seval,hp,hll,av_,leV,as_,au_,V.inn,us,true_or,or_true]) (hL:=by simp only[go_sem,seval,hp,hll,av_,leV,as_,au_,V.inn,us,true_or,or_true]<;>(simp[it_,hll]))
 refine .seq (.rg [] ?_ (h:=by simp only[go_sem,seval,hp,hll];rfl))
 refine .seq (.cB (fun h20=>?_) (fun h20=>?_) (hc:=by simp only[go_sem,seval,hp,hll];rfl) (hp:=by simp only[go_sem,seval,hp,hll]))
 ·refine .skip (.seq (.block (.seq (.rgo [] ?_ ?_ (h:=by simp only[go_sem,seval,hp,hll,tv_ (show k<ts.length by simpa using h20)];rfl)))))
  ·simp at h20;simp;omega
  refine .rgo [] ?_ ?_ (h:=by simp only[go_sem,seval,hp,hll];rfl)
  ·simp at h20;simp;omega
  refine .rg [] ?_ (h:=by simp only[go_sem,seval,hp,hll];rfl)
  refine⟨k+1,?_,?_,?_⟩
  ·simp at h20;omega
  ·simp at h20;omega
  exact Can.wl (h:=by simp only[go_sem,seval,hp,hll,av_,leV,as_,au_,V.inn,us,true_or,or_true]<;>(rw[ac_ (by simp at h20;omega) (by simp at h20;omega)];simp)) (hi:=by simp only[go_sem,seval,hp,hll,av_,leV,as_,au_,V.inn,us,true_or,or_true]) (hL:=by simp only[go_sem,seval,hp,hll,av_,leV,as_,au_,V.inn,us,true_or,or_true]<;>((rw[←jf_ (by rw[hll];simpa using h20),an_ (by simpa using h20)];simp[List.getD_eq_getElem?_getD,List.getElem?_eq_getElem (show k<ts.length by simpa using h20)])))
 refine .exit (.seq (.rg [] ?_ (h:=by simp only[go_sem,seval,hp,hll];rfl)))
 refine .frz 26 (by simp only[go_sem,seval,hp,hll];rfl) (by simp only[go_sem,seval,hp,hll]) (by simp only[go_sem,seval,hp,hll];rfl) (by simp only[go_sem,seval,hp,hll];rfl) ?_
 refine .ret ⟨.inr rfl,?_⟩
 exact Out.pl (by simp only[Tryz.results128];rfl) (by simp only[ba_,go_sem,seval,hp,hll]<;>(simp at h20;rw[kj_ (by omega)];simp[←hll,List.take_of_length_le,peel])) (h1:=by simp only[a1_,bn_,go_sem,seval,hp,hll]<;>(split<;>rfl)) (h3:=by simp only[go_sem,seval,hp,hll])
theorem akl_ (w:List Str):(decide ((w.length:Int) > 0)=true→decide ((w.length:Int) > 0)=true∧(0:Int)<w.length∧((ai_ w).getD 0 []).length=1)∧(decide ((w.length:Int) > 0)=true→(decide ((w.length:Int) > 0)=true∧1≤((ai_ w).getD 0 []).length)∧({ v:=((ai_ w).getD 0 []).getD 0 .no }:Eff)={ v:=.s (w.getD 0 []) }):=by
 cases w with
 |nil=>simp
 |cons x r=>simp[ai_]
attribute [local go_sem] asO af_ ah_ m3_ m5_ bz_ qh_ in
theorem ah1_ (w:List Str) (hw:smW w) (hl:w.length≤100000):ACall En 220 [.sl false (ai_ w)] [] [.ag (bC (gc_ w))] []:=by
 have hs:=ti_ w bz_
 simp only[bz_]at hs
 have hsw:IntKind.i64.wrap (bh_ w [58]+2)=bh_ w [58]+2:=ac_ (by omega) (by omega)
 have ht:0<bh_ w [58]→(bh_ w [58]+2).toNat=(bh_ w [58]).toNat+2:=fun h=>by omega
 refine aa_ [] Tryz.func220 Tryz.ntmps220 fun C=>?_
 refine .seq (.rg [] ?_ (h:=by simp only[go_sem,seval,hsw];rfl))
 refine .seq (.rg [] ?_ (h:=by simp only[go_sem,seval,hsw];rfl))
 refine .seq (.block (.seq (.rgSo [12] [asO En { v:=.s (w.getD 0 []) }] ?_ ?_ (h:=by simp only[go_sem,seval,hsw];rfl))))
 ·exact akl_ w
 refine .cB (fun h5=>?_) (fun h5=>?_) (hc:=by simp only[go_sem,seval,hsw];rfl) (hp:=by simp only[go_sem,seval,hsw])
 ·refine .seq (.rg [] ?_ (h:=by simp only[go_sem,seval,hsw];rfl))
  refine .rgo [ab_ (d9_ (w.drop 1) (bv_ hw 1) (by simp;omega))] ?_ ?_ (h:=by simp only[go_sem,seval,hsw];rfl)
  ·simp only[Bool.and_eq_true,decide_eq_true_eq]at h5;simp[bb_,ad_];omega
  refine .seq (.rg [] ?_ (h:=by simp only[go_sem,seval,hsw];rfl))
  refine .ret ⟨.inr rfl,?_⟩
  exact Out.plL (by simp only[Tryz.results220];rfl) (by simp only[ba_,go_sem,seval,hsw]<;>((have e:gc_ w=⟨2,[],ex (w.drop 1),E0⟩:=(by unfold gc_;rw[if_pos (by simpa[bj_]using h5)]));rw[e,cp_];simp[les,leV,ler,ad_,fw_,fs_,ft_,bq_,b6_])) (h1:=by simp only[a1_,bn_,go_sem,seval,hsw]<;>(split<;>rfl)) (h3:=by simp only[go_sem,seval,hsw])
 refine .seq (.rgSo [30] [asO En { v:=.s (w.getD 0 []) }] ?_ ?_ (h:=by simp only[go_sem,seval,hsw];rfl))
 ·exact akl_ w
 refine .cB (fun h23=>?_) (fun h23=>?_) (hc:=by simp only[go_sem,seval,hsw];rfl) (hp:=by simp only[go_sem,seval,hsw])
 ·refine .seq (.rg [] ?_ (h:=by simp only[go_sem,seval,hsw];rfl))
  refine .seq (.rg [ab_ (acg_ w bz_ (by omega))] ?_ (h:=by simp only[go_sem,seval,hsw];rfl))
  refine .seq (.rg [] ?_ (h:=by simp only[go_sem,seval,hsw];rfl))
  refine .cB (fun h44=>?_) (fun h44=>?_) (hc:=by simp only[go_sem,seval,hsw];rfl) (hp:=by simp only[go_sem,seval,hsw])
  ·refine .seq (.rgo [ab_ (d9_ ((w.take (bh_ w bz_).toNat).drop 1) (bv_ (hz_ hw _) 1) (by simp;omega))] ?_ ?_ (h:=by simp only[go_sem,seval,hsw];rfl))
   ·simp only[Bool.and_eq_true,decide_eq_true_eq]at h44;simp[bb_];omega
   refine .rgo [ab_ (d9_ (w.drop ((bh_ w bz_).toNat+2)) (bv_ hw _) (by simp;omega))] ?_ ?_ (h:=by simp only[go_sem,seval,hsw,ht (by simp at h44;exact h44.1)];rfl)
   ·simp only[Bool.and_eq_true,decide_eq_true_eq]at h44;simp[bb_,ad_];omega
   refine .seq (.rg [] ?_ (h:=by simp only[go_sem,seval,hsw];rfl))
   refine .ret ⟨.inr rfl,?_⟩
   exact Out.plL (by simp only[Tryz.results220];rfl) (by simp only[ba_,go_sem,seval,hsw]<;>((have e:gc_ w=⟨3,[],ex ((w.take (bh_ w bz_).toNat).drop 1),ex (w.drop ((bh_ w bz_).toNat+2))⟩:=(by unfold gc_;rw[if_neg (by simpa[bj_]using h5),if_pos (by simpa[wIf]using h23),if_pos (by simpa[bz_]using h44)]));rw[e,cp_];simp[bz_,les,leV,ler,ad_])) (h1:=by simp only[a1_,bn_,go_sem,seval,hsw]<;>(split<;>rfl)) (h3:=by simp only[go_sem,seval,hsw])
  refine .skip (.seq (.rg [] ?_ (h:=by simp only[go_sem,seval,hsw];rfl)))
  refine .ret ⟨.inr rfl,?_⟩
  exact Out.plL (by simp only[Tryz.results220];rfl) (by simp only[ba_,go_sem,seval,hsw]<;>((have e:gc_ w=⟨3,[],E0,E0⟩:=(by unfold gc_;rw[if_neg (by simpa[bj_]using h5),if_pos (by simpa[wIf]using h23),if_neg (by simpa[bz_]using h44)]));rw[e,cp_];simp[les,leV,ler,ad_,fw_,fs_,ft_,bq_,b6_])) (h1:=by simp only[a1_,bn_,go_sem,seval,hsw]<;>(split<;>rfl)) (h3:=by simp only[go_sem,seval,hsw])
 refine .seq (.rg [] ?_ (h:=by simp only[go_sem,seval,hsw];rfl))
 refine .cB (fun h62=>?_) (fun h62=>?_) (hc:=by simp only[go_sem,seval,hsw];rfl) (hp:=by simp only[go_sem,seval,hsw])
 ·refine .seq (.rgDo [] ?_ ?_ (h:=by simp only[go_sem,seval,hsw,an_ (show 0<w.length by simp at h62;omega)];rfl))
  ·simp only[decide_eq_true_eq]at h62;omega
  refine .rgo [ab_ (d9_ (w.drop 2) (bv_ hw 2) (by simp;omega))] ?_ ?_ (h:=by simp only[go_sem,seval,hsw];rfl)
  ·simp only[decide_eq_true_eq]at h62;simp[bb_,ad_];omega
  refine .seq (.rg [] ?_ (h:=by simp only[go_sem,seval,hsw];rfl))
  refine .ret ⟨.inr rfl,?_⟩
  exact Out.plL (by simp only[Tryz.results220];rfl) (by simp only[ba_,go_sem,seval,hsw]<;>((have e:gc_ w=⟨1,w.getD 0 [],ex (w.drop 2),E0⟩:=(by unfold gc_;rw[if_neg (by simpa[bj_]using h5),if_neg (by simpa[wIf]using h23),if_pos (by simp at h62;omega)]));rw[e,cp_];simp[les,leV,ler,ad_,fw_,fs_,ft_,bq_,b6_])) (h1:=by simp only[a1_,bn_,go_sem,seval,hsw]<;>(split<;>rfl)) (h3:=by simp only[go_sem,seval,hsw])
 refine .skip (.seq (.rg [] ?_ (h:=by simp only[go_sem,seval,hsw];rfl)))
 refine .ret ⟨.inr rfl,?_⟩
 exact Out.plL (by simp only[Tryz.results220];rfl) (by simp only[ba_,go_sem,seval,hsw]<;>((have e:gc_ w=B0:=(by unfold gc_;rw[if_neg (by simpa[bj_]using h5),if_neg (by simpa[wIf]using h23),if_neg (by simp at h62;omega)]));rw[e,cp_];simp[B0,les,leV,ler,ad_,fw_,fs_,ft_,bq_,b6_])) (h1:=by simp only[a1_,bn_,go_sem,seval,hsw]<;>(split<;>rfl)) (h3:=by simp only[go_sem,seval,hsw])
end
section
theorem sy_ {w:List Str} (h:smW w):sm (ex w)=true:=by
 have hS:=((i_sm 500).1 1 ⟨w,false,0⟩ h).1
 unfold ex ew_
 split
 ·split
  ·exact(show sm E0=true by decide)
  exact hS
 exact(show sm E0=true by decide)
theorem nw_:∀(n:Nat) (l:Str) (c:Int) (t:List Tk),fp_ n l c=some t→∀x∈t,x.s.length≤l.length
 |0,l,c,t,h=>by simp[fp_]at h;subst h;intro x hx;cases hx
 |n+1,[],c,t,h=>by simp[fp_]at h;subst h;intro x hx;cases hx
 |n+1,y::l,c,t,h=>by
  simp only[fp_]at h
  split at h
  ·intro x hx;have:=nw_ n l _ t h x hx;simp only[List.length_cons];omega
  split at h
  ·cases h
  obtain⟨u,hu,rfl⟩:=Option.map_eq_some_iff.1 h
  intro x hx
  rcases List.mem_cons.1 hx with rfl|hx
  ·simp only[List.length_take];omega
  have h1:=nw_ n _ _ u hu x hx
  rw[List.length_drop]at h1;omega
theorem mz_ (s:Str):smW (be_ s)∧(be_ s).length≤120:=by
 refine⟨?_,by unfold be_;rw[List.length_map];exact uu_ s⟩
 unfold be_
 cases h:az_ s with
 |none=>intro w hw;simp at hw
 |some t=>
  unfold az_ at h
  split at h
  ·cases h
  intro w hw
  simp only[Option.getD_some]at hw
  obtain⟨x,hx,rfl⟩:=List.mem_map.1 hw
  have:=nw_ _ _ _ _ h x hx
  omega
theorem tt_ {w:List Str} (h:smW w) (k:Nat):(w.getD k []).length≤281474976710656:=by
 rw[List.getD_eq_getElem?_getD]
 cases hk:w[k]? with
 |none=>simp
 |some x=>exact h x (List.mem_of_getElem? hk)
theorem po_ (s:Sl):bu_ (sC s)=true:=by rw[a9_];simp only[bu_,V.pure,hr_,Bool.and_self]
theorem aqr_ {w:List Str} (h:smW w):d6_ (rdS w)=true:=by
 have g:=tt_ h
 have e:=fun k=>sy_ (bv_ h k)
 have e0:sm E0=true:=by decide
 unfold rdS
 split
 ·simp only[d6_,e,e0,Bool.and_true,Bool.and_eq_true,decide_eq_true_eq];have:=g 1;have:=g 3;omega
 split
 ·simp only[d6_,e,e0,Bool.and_true];rfl
 split
 ·split
  ·simp only[d6_,e,sy_ (bv_ (hz_ h _) 1),Bool.and_true];rfl
  simp only[d6_,e0,Bool.and_true];rfl
 decide
theorem aly_ {w:List Str} (h:smW w):smb (gc_ w)=true:=by
 have g:=tt_ h
 have e:=fun k=>sy_ (bv_ h k)
 have e0:sm E0=true:=by decide
 unfold gc_
 split
 ·simp only[smb,e,e0,Bool.and_true];rfl
 split
 ·split
  ·simp only[smb,e,sy_ (bv_ (hz_ h _) 1),Bool.and_true];rfl
  simp only[smb,e0,Bool.and_true];rfl
 split
 ·simp only[smb,e,e0,Bool.and_true,decide_eq_true_eq];have:=g 0;omega
 decide
theorem adk_ {w:List Str} (h:(decide ((w.length:Int) > 5)&&w.getD 0 []==[108,101,116])=true):5<w.length∧w.getD 0 []=jl_:=by
 simp only[Bool.and_eq_true,decide_eq_true_eq,beq_iff_eq]at h;exact⟨by omega,h.2⟩
theorem ame_ {w:List Str} (h:(decide ((w.length:Int) > 5)&&w.getD 0 []==[108,101,116])=false):¬(5<w.length∧w.getD 0 []=jl_):=fun q=>by
 have:(decide ((w.length:Int) > 5)&&w.getD 0 []==[108,101,116])=true:=by simp only[Bool.and_eq_true,decide_eq_true_eq,beq_iff_eq];exact⟨by omega,q.2⟩
 rw[this]at h;cases h
theorem a3h_ (w:List Str) (c:Bool) (hc:c=true→w≠[]):(c=true→c=true∧(0:Int)<w.length∧((ai_ w).getD 0 []).length=1)∧(c=true→(c=true∧1≤((ai_ w).getD 0 []).length)∧({ v:=((ai_ w).getD 0 []).getD 0 .no }:Eff)={ v:=.s (w.getD 0 []) }):=by
 cases w with
 |nil=>exact⟨fun h=>absurd rfl (hc h),fun h=>absurd rfl (hc h)⟩
 |cons x r=>simp[ai_]
attribute [local go_sem] asO af_ ah_ m3_ m5_ bp_ po_ in
theorem aik_ (w:List Str) (hw:smW w) (hl:w.length≤100000):ACall En 129 [.sl false (ai_ w)] [] [.ag (sC (rdS w))] []:=by
 have hs:=ti_ w bp_
 simp only[bp_]at hs
 have hsw:IntKind.i64.wrap (bh_ w [115,97,121]+1)=bh_ w [115,97,121]+1:=ac_ (by omega) (by omega)
 have ht:0<bh_ w [115,97,121]→(bh_ w [115,97,121]+1).toNat=(bh_ w [115,97,121]).toNat+1:=fun h=>by omega
 refine aa_ [] Tryz.func129 Tryz.ntmps129 fun C=>?_
 refine .seq (.rg [] ?_ (h:=by simp only[go_sem,seval,hsw];rfl))
 refine .seq (.rg [] ?_ (h:=by simp only[go_sem,seval,hsw];rfl))
 refine .seq (.block (.seq (.rgSo [12] [asO En { v:=.s (w.getD 0 []) }] ?_ ?_ (h:=by simp only[go_sem,seval,hsw];rfl))))
 ·exact a3h_ w _ (fun h e=>by simp[e]at h)
 refine .cB (fun h5=>?_) (fun h5=>?_) (hc:=by simp only[go_sem,seval,hsw];rfl) (hp:=by simp only[go_sem,seval,hsw])
 ·refine .seq (.rgDo [] ?_ ?_ (h:=by simp only[go_sem,seval,hsw,an_ (show 1<w.length by have:=adk_ h5;omega),an_ (show 3<w.length by have:=adk_ h5;omega)];rfl))
  ·have:=adk_ h5;(omega)
  refine .rgo [ab_ (d9_ (w.drop 5) (bv_ hw 5) (by simp;omega))] ?_ ?_ (h:=by simp only[go_sem,seval,hsw];rfl)
  ·have:=adk_ h5;simp[bb_,ad_];omega
  refine .seq (.rg [] ?_ (h:=by simp only[go_sem,seval,hsw];rfl))
  refine .ret ⟨.inr rfl,?_⟩
  exact Out.plL (by simp only[Tryz.results129];rfl) (by simp only[ba_,go_sem,seval,hsw]<;>((have e:rdS w=⟨1,w.getD 1 [],w.getD 3 [],ex (w.drop 5),E0⟩:=(by unfold rdS;rw[if_pos (adk_ h5)]));rw[e,a9_];simp[les,leV,ler,ad_,fw_,fs_,ft_,bq_,b6_])) (h1:=by simp only[a1_,bn_,go_sem,seval,hsw]<;>(split<;>rfl)) (h3:=by simp only[go_sem,seval,hsw])
 refine .seq (.rgSo [38] [asO En { v:=.s (w.getD 0 []) }] ?_ ?_ (h:=by simp only[go_sem,seval,hsw];rfl))
 ·exact akl_ w
 refine .cB (fun h31=>?_) (fun h31=>?_) (hc:=by simp only[go_sem,seval,hsw];rfl) (hp:=by simp only[go_sem,seval,hsw])
 ·refine .seq (.rg [] ?_ (h:=by simp only[go_sem,seval,hsw];rfl))
  refine .rgo [ab_ (d9_ (w.drop 1) (bv_ hw 1) (by simp;omega))] ?_ ?_ (h:=by simp only[go_sem,seval,hsw];rfl)
  ·simp only[Bool.and_eq_true,decide_eq_true_eq]at h31;simp[bb_,ad_];omega
  refine .seq (.rg [] ?_ (h:=by simp only[go_sem,seval,hsw];rfl))
  refine .ret ⟨.inr rfl,?_⟩
  exact Out.plL (by simp only[Tryz.results129];rfl) (by simp only[ba_,go_sem,seval,hsw]<;>((have e:rdS w=⟨2,[],[],ex (w.drop 1),E0⟩:=(by unfold rdS;rw[if_neg (ame_ h5),if_pos (by simpa[bp_]using h31)]));rw[e,a9_];simp[les,leV,ler,ad_,fw_,fs_,ft_,bq_,b6_])) (h1:=by simp only[a1_,bn_,go_sem,seval,hsw]<;>(split<;>rfl)) (h3:=by simp only[go_sem,seval,hsw])
 refine .seq (.rgSo [56] [asO En { v:=.s (w.getD 0 []) }] ?_ ?_ (h:=by simp only[go_sem,seval,hsw];rfl))
 ·exact akl_ w
 refine .cB (fun h49=>?_) (fun h49=>?_) (hc:=by simp only[go_sem,seval,hsw];rfl) (hp:=by simp only[go_sem,seval,hsw])
 ·refine .seq (.rg [] ?_ (h:=by simp only[go_sem,seval,hsw];rfl))
  refine .seq (.rg [ab_ (acg_ w bp_ (by omega))] ?_ (h:=by simp only[go_sem,seval,hsw];rfl))
  refine .seq (.rg [] ?_ (h:=by simp only[go_sem,seval,hsw];rfl))
  refine .cB (fun h63=>?_) (fun h63=>?_) (hc:=by simp only[go_sem,seval,hsw];rfl) (hp:=by simp only[go_sem,seval,hsw])
  ·refine .seq (.rgo [ab_ (d9_ ((w.take (bh_ w bp_).toNat).drop 1) (bv_ (hz_ hw _) 1) (by simp;omega))] ?_ ?_ (h:=by simp only[go_sem,seval,hsw];rfl))
   ·simp only[decide_eq_true_eq]at h63;simp[bb_];omega
   refine .rgo [ab_ (d9_ (w.drop ((bh_ w bp_).toNat+1)) (bv_ hw _) (by simp;omega))] ?_ ?_ (h:=by simp only[go_sem,seval,hsw,ht (by simpa using h63)];rfl)
   ·simp only[decide_eq_true_eq]at h63;simp[bb_,ad_];omega
   refine .seq (.rg [] ?_ (h:=by simp only[go_sem,seval,hsw];rfl))
   refine .ret ⟨.inr rfl,?_⟩
   exact Out.plL (by simp only[Tryz.results129];rfl) (by simp only[ba_,go_sem,seval,hsw]<;>((have e:rdS w=⟨3,[],[],ex ((w.take (bh_ w bp_).toNat).drop 1),ex (w.drop ((bh_ w bp_).toNat+1))⟩:=(by unfold rdS;rw[if_neg (ame_ h5),if_neg (by simpa[bp_]using h31),if_pos (by simpa[c8_]using h49),if_pos (by simpa[bp_]using h63)]));rw[e,a9_];simp[bp_,les,leV,ler,ad_])) (h1:=by simp only[a1_,bn_,go_sem,seval,hsw]<;>(split<;>rfl)) (h3:=by simp only[go_sem,seval,hsw])
  refine .skip (.seq (.rg [] ?_ (h:=by simp only[go_sem,seval,hsw];rfl)))
  refine .ret ⟨.inr rfl,?_⟩
  exact Out.plL (by simp only[Tryz.results129];rfl) (by simp only[ba_,go_sem,seval,hsw]<;>((have e:rdS w=⟨3,[],[],E0,E0⟩:=(by unfold rdS;rw[if_neg (ame_ h5),if_neg (by simpa[bp_]using h31),if_pos (by simpa[c8_]using h49),if_neg (by simpa[bp_]using h63)]));rw[e,a9_];simp[les,leV,ler,ad_,fw_,fs_,ft_,bq_,b6_])) (h1:=by simp only[a1_,bn_,go_sem,seval,hsw]<;>(split<;>rfl)) (h3:=by simp only[go_sem,seval,hsw])
 refine .skip (.seq (.rg [] ?_ (h:=by simp only[go_sem,seval,hsw];rfl)))
 refine .ret ⟨.inr rfl,?_⟩
 exact Out.plL (by simp only[Tryz.results129];rfl) (by simp only[ba_,go_sem,seval,hsw]<;>((have e:rdS w=S0:=(by unfold rdS;rw[if_neg (ame_ h5),if_neg (by simpa[bp_]using h31),if_neg (by simpa[c8_]using h49)]));rw[e,a9_];simp[S0,les,leV,ler,ad_,fw_,fs_,ft_,bq_,b6_])) (h1:=by simp only[a1_,bn_,go_sem,seval,hsw]<;>(split<;>rfl)) (h3:=by simp only[go_sem,seval,hsw])
theorem uw_ {line:Str} (h:¬((az_ line).isSome=true∧sok (rdS (be_ line))=true∧ec_ (rdS (be_ line))=line)):ch_ line=none:=by
 unfold ch_ be_ at *
 cases ht:az_ line with
 |none=>rfl
 |some ts=>
  rw[ht]at h
  simp only[Option.getD_some]at h
  dsimp only
  rw[if_neg]
  rintro⟨h1,h2⟩
  exact h ⟨rfl,h1,by unfold ec_;rw[if_pos h1];exact h2⟩
theorem ul_ {line:Str} (h:(az_ line).isSome=true) (h1:sok (rdS (be_ line))=true) (h2:ec_ (rdS (be_ line))=line):ch_ line=some (rdS (be_ line)):=by
 unfold ch_ be_ at *
 cases ht:az_ line with
 |none=>rw[ht]at h;cases h
 |some ts=>
  rw[ht]at h1 h2
  simp only[Option.getD_some]at h1 h2 ⊢
  rw[if_pos ⟨h1,by unfold ec_ at h2;rw[if_pos h1]at h2;exact h2⟩]
attribute [local go_sem] ah_ po_ a9_ in
theorem sr_ (line:Str) (hl:line.length≤281474976710656):ACall En 73 [.s line] [] [.ag (sC ((ch_ line).getD S0)),.b (ch_ line).isSome] []:=by
 obtain⟨w1,w2⟩:=mz_ line
 have hs:=aqr_ w1
 refine aa_ [] Tryz.func73 Tryz.ntmps73 fun C=>?_
 refine .seq (.rg [] ?_)
 refine .seq (.rg [ab_ (x3_ line hl)] ?_)
 refine .seq (.rg [ab_ (aik_ (be_ line) w1 (by omega))] ?_)
 refine .seq (.seq (.rg [ab_ (rf_ (rdS (be_ line)) hs),ab_ (ae8_ (rdS (be_ line)) hs)] ?_))
 refine .cB (fun h26=>?_) fun h26=>?_
 ·refine .seq (.rg [] ?_)
  refine .ret ⟨.inr rfl,Out.pQ Tryz.results73 ?_⟩;rw[uw_ (by intro q;simp[q.1,q.2.1,q.2.2]at h26)];simp[S0,les,leV,ler,ad_,fw_,fs_,ft_,bq_,b6_]
 refine .skip (.seq (.rg [] ?_))
 refine .ret ⟨.inr rfl,Out.pQ Tryz.results73 ?_⟩;rw[ul_ (by simp at h26;exact h26.1.1) (by simp at h26;exact h26.1.2) (by simp at h26;exact h26.2)];simp[les,leV,ler,ad_]
theorem vi_ {line:Str} (h:¬((az_ line).isSome=true∧bok (gc_ (be_ line))=true∧btxt (gc_ (be_ line))=line)):el_ line=none:=by
 unfold el_ be_ at *
 cases ht:az_ line with
 |none=>rfl
 |some ts=>
  rw[ht]at h
  simp only[Option.getD_some]at h
  dsimp only
  rw[if_neg]
  rintro⟨h1,h2⟩
  exact h ⟨rfl,h1,by unfold btxt;rw[if_pos h1];exact h2⟩
theorem um_ {line:Str} (h:(az_ line).isSome=true) (h1:bok (gc_ (be_ line))=true) (h2:btxt (gc_ (be_ line))=line):el_ line=some (gc_ (be_ line)):=by
 unfold el_ be_ at *
 cases ht:az_ line with
 |none=>rw[ht]at h;cases h
 |some ts=>
  rw[ht]at h1 h2
  simp only[Option.getD_some]at h1 h2 ⊢
  rw[if_pos ⟨h1,by unfold btxt at h2;rw[if_pos h1]at h2;exact h2⟩]
attribute [local go_sem] ah_ qh_ cp_ in
theorem ad9_ (line:Str) (hl:line.length≤281474976710656):ACall En 156 [.s line] [] [.ag (bC ((el_ line).getD B0)),.b (el_ line).isSome] []:=by
 obtain⟨w1,w2⟩:=mz_ line
 have hs:=aly_ w1
 refine aa_ [] Tryz.func156 Tryz.ntmps156 fun C=>?_
 refine .seq (.rg [] ?_)
 refine .seq (.rg [ab_ (x3_ line hl)] ?_)
 refine .seq (.rg [ab_ (ah1_ (be_ line) w1 (by omega))] ?_)
 refine .seq (.seq (.rg [ab_ (rc_ (gc_ (be_ line)) hs),ab_ (agj_ (gc_ (be_ line)) hs)] ?_))
 refine .cB (fun h26=>?_) fun h26=>?_
 ·refine .seq (.rg [] ?_)
  refine .ret ⟨.inr rfl,Out.pQ Tryz.results156 ?_⟩;rw[vi_ (by intro q;simp[q.1,q.2.1,q.2.2]at h26)];simp[B0,les,leV,ler,ad_,fw_,fs_,ft_,bq_,b6_]
 refine .skip (.seq (.rg [] ?_))
 refine .ret ⟨.inr rfl,Out.pQ Tryz.results156 ?_⟩;rw[um_ (by simp at h26;exact h26.1.1) (by simp at h26;exact h26.1.2) (by simp at h26;exact h26.2)];simp[les,leV,ler,ad_]
end
section
theorem kw_ {w:List Str} {o:Option Nat} {c:UInt8} (h:(decide (oN o<0)||!(atI w (oN o)==[c]))=false):o=some (nx o)∧w.getD (nx o) []=[c]∧nx o<w.length∧oN o=(nx o:Int):=by
 cases o with
 |none=>exact absurd h (by simp[oN])
 |some b=>
  have h':(decide ((b:Int)<0)||!(atI w (b:Int)==[c]))=false:=h
  rw[jp_,Bool.or_eq_false_iff,Bool.not_eq_false',beq_iff_eq]at h'
  exact⟨rfl,h'.2,j4_ (by show w.getD b []≠[];rw[h'.2];simp),rfl⟩
theorem a2l_ {n:Nat} {w:List Str} {k:Nat} {d:Int} {b:Nat} (h:(sLp n w k 2 d).2=some b) (h2:w.getD b []=[60]):sL1 (n+1) w k d=(.mk 3 0 [60] [(sLp n w k 2 d).1,(sLp n w (b+1) 2 d).1],(sLp n w (b+1) 2 d).2):=by rw[sL1,h];dsimp only;rw[if_pos h2]
theorem a2e_ {n:Nat} {w:List Str} {k:Nat} {d:Int} (h:(decide (oN (sLp n w k 2 d).2<0)||!(atI w (oN (sLp n w k 2 d).2)==[60]))=true):sL1 (n+1) w k d=sLp n w k 2 d:=by
 rw[sL1]
 generalize sLp n w k 2 d=o at *
 obtain⟨e,o⟩:=o
 cases o with
 |none=>rfl
 |some b=>
  have h':(decide ((b:Int)<0)||!(atI w (b:Int)==[60]))=true:=h
  rw[jp_,decide_eq_false (by omega),Bool.false_or,Bool.not_eq_true',beq_eq_false_iff_ne]at h'
  dsimp only;rw[if_neg h']
attribute [local go_sem] af_ ah_ dz_ in
theorem ahg_ (w:List Str) (hw:smW w) (hl:w.length≤1000000) (n:Nat) (ih:∀j,j<n+1→LpOk w j):L1Ok w (n+1):=fun k d d0 d5 hk hn=>by
 have A:=ih n (by omega) k 2 d d0 d5 (by omega) (by omega) hk (by omega)
 have L:=fun(h:nx (sLp n w k 2 d).2<w.length∧k+1≤nx (sLp n w k 2 d).2)=>ih n (by omega) (nx (sLp n w k 2 d).2+1) 2 d d0 d5 (by omega) (by omega) (by omega) (by omega)
 have hB:=((ub_ w hw n).2.1 k 2 d).2
 refine aa_ [] Tryz.func238 Tryz.ntmps238 fun C=>?_
 refine .seq (.rg [] ?_)
 refine .seq (.rg [ab_ A] ?_)
 refine .seq (.seq (.rg [ab_ (lg_ w (oN (sLp n w k 2 d).2))] ?_))
 refine .cB (fun h26=>?_) fun h26=>?_
 ·refine .seq (.rg [] ?_)
  refine .ret ⟨.inr rfl,Out.pQ Tryz.results238 ?_⟩;rw[a2e_ h26];exact⟨⟨rfl,rfl,rfl,ad_ _⟩,rfl⟩
 refine .skip (.seq (.rgo [a0_ (nx (sLp n w k 2 d).2<w.length∧k+1≤nx (sLp n w k 2 d).2) L] ?_ ?_ (h:=by simp only[go_sem,seval,(kw_ h26).2.2.2,jz_ (nx (sLp n w k 2 d).2+1) (by have:=(kw_ h26).2.2.1;omega),show((nx (sLp n w k 2 d).2:Int)+1)=((nx (sLp n w k 2 d).2+1:Nat):Int)from rfl];rfl)))
 ·(exact⟨(kw_ h26).2.2.1,hB _ (kw_ h26).1 |>.1⟩)
 refine .seq (.rg [] ?_)
 refine .ret ⟨.inr rfl,Out.pQ Tryz.results238 ?_⟩;rw[a2l_ (kw_ h26).1 (kw_ h26).2.1];simp[E.kind,E.n,E.s,E.kids,eR,dz_,les,leV,ler,ad_]
theorem aj6_ (w:List Str) (hw:smW w) (hl:w.length≤1000000):∀n,ai9_ w n∧LpOk w n∧L1Ok w n:=fun n=>by
 induction n using Nat.strongRecOn with
 |_ n ih=>
  cases n with
  |zero=>exact⟨fun k d _ _ _ hn=>absurd hn (by omega),fun k t d _ _ _ _ _ hn=>absurd hn (by omega),fun k d _ _ _ hn=>absurd hn (by omega)⟩
  |succ n=>exact⟨anb_ w hw hl n (fun j hj=>(ih j hj).2.2),anx_ w hw hl n (fun j hj=>(ih j hj).1) (fun j hj=>(ih j hj).2.1),ahg_ w hw hl n (fun j hj=>(ih j hj).2.1)⟩
end
section
attribute [local go_sem] af_ ah_ in
theorem anj_ (a b:List Str) (ha:a.length≤1000000000000) (hb:b.length≤1000000000000):ACall En 239 [.sl false (ai_ a),.sl false (ai_ b)] [] [.b (a==b)] []:=by
 refine aa_ [] Tryz.func239 Tryz.ntmps239 fun C=>?_
 refine .seq (.rg [] ?_)
 refine .seq (.seq (.rg [] ?_))
 refine .cB (fun h10=>?_) fun h10=>?_
 ·refine .seq (.rg [] ?_)
  refine .ret ⟨.inr rfl,Out.pP Tryz.results239 ?_⟩;have:a≠b:=(fun e=>by simp[e]at h10);simp[this]
 refine .skip (.seq (.seq (.rg [] ?_)))
 refine .block (.loopK (fun k:Nat=>⟨[.sl false (ai_ a),.sl false (ai_ b),.no,.no,.no,.i .i64 k,.no,.no,.no,.no,.no,.no,.no,.no,.no,.no,.no,.no,.no,.no,.no,.no,.no,.no,.no,.no],ae_ [],us []⟩) (fun k:Nat=>k≤a.length∧a.take k=b.take k) (fun k:Nat=>a.length - k) (0) ?_ ?_ (fun k hI=>?_))
 ·exact⟨Nat.zero_le _,rfl⟩
 ·refine Can.wh ?_;trivial
 refine .seq (.seq (.rg [] ?_))
 refine .cB (fun h14=>?_) fun h14=>?_
 ·refine .skip (.seq (.block (.seq (.rgDo [] ?_ ?_ (h:=by simp only[go_sem,seval,an_ (show k<a.length by simpa using h14),an_ (show k<b.length by simp at h14 h10;omega)];rfl)))))
  ·simp at h14 h10;simp;omega
  refine .cB (fun h25=>?_) fun h25=>?_
  ·refine .seq (.rg [] ?_)
   refine .ret ⟨.inr rfl,Out.pP Tryz.results239 ?_⟩;have h2:a.getD k []≠b.getD k []:=(by rw[Bool.not_eq_true',beq_eq_false_iff_ne]at h25;exact h25);have:a≠b:=(fun e=>h2 (by rw[e]));simp[this]
  refine .skip (.rg [] ?_)
  refine⟨k+1,?_,?_,?_⟩
  ·simp only[decide_eq_true_eq]at h14;simp at h10;exact⟨by omega,axi_ (d:=[]) (by omega) (by omega) hI.2 (by simpa using h25)⟩
  ·simp at h14;omega
  refine Can.wh ?_;rw[ac_ (by simp at h14;omega) (by simp at h14;omega)];simp
 refine .exit (.seq (.rg [] ?_))
 refine .ret ⟨.inr rfl,Out.pP Tryz.results239 ?_⟩;simp only[decide_eq_false_iff_not]at h14;simp at h10;have q:=hI.2;rw[List.take_of_length_le (by omega),List.take_of_length_le (by omega)]at q;simp[q]
attribute [local go_sem] af_ ah_ dz_ in
theorem ea_ (w:List Str) (hw:smW w) (hl:w.length≤1000000):ACall En 174 [.sl false (ai_ w)] [] [.ag (eC (ex w)),.b (jn_ w)] []:=by
 have hR:=fun(h:w.length≤40)=>(aj6_ w hw hl 500).2.2 0 5 (by decide) (by decide) (by omega) (by omega)
 have hS:=((ub_ w hw 500).2.2.2 0 5).1
 have hE:ew_ w=if w.length≤40 then(if (!((sL1 500 w 0 5).2==some w.length)||!eok (sL1 500 w 0 5).1||!(wds (sL1 500 w 0 5).1 1==w))then none else some (sL1 500 w 0 5).1)else none:=(ar4_ w).trans rfl
 generalize sL1 500 w 0 5=q at *
 have hq:(!(q.2==some w.length))=!(oN q.2==(w.length:Int)):=by
  cases q.2 with
  |none=>simp[oN]
  |some b=>simp only[oN];congr 1;rw[Bool.eq_iff_iff];simp;omega
 rw[hq]at hE
 have n1:decide ((w.length:Int) > 40)=true→ew_ w=none:=fun h=>by rw[hE,if_neg (by simp at h;omega)]
 have n2:decide ((w.length:Int) > 40)=false→(!(oN q.2==(w.length:Int))||!eok q.1||!(wds q.1 1==w))=true→ew_ w=none:=fun h h2=>by rw[hE,if_pos (by simp at h;omega),if_pos h2]
 have n3:decide ((w.length:Int) > 40)=false→(!(oN q.2==(w.length:Int))||!eok q.1||!(wds q.1 1==w))=false→ew_ w=some q.1:=fun h h2=>by rw[hE,if_pos (by simp at h;omega),h2];rfl
 refine aa_ [] Tryz.func174 Tryz.ntmps174 fun C=>?_
 refine .seq (.rg [] ?_)
 refine .seq (.seq (.rg [] ?_))
 refine .cB (fun h8=>?_) fun h8=>?_
 ·refine .seq (.rg [] ?_)
  refine .ret ⟨.inr rfl,Out.pQ Tryz.results174 ?_⟩;simp[ex,jn_,n1 h8,E0,E.kind,E.n,E.s,E.kids,eR,ler]
 refine .skip (.seq (.rg [ab_ (hR (by simp at h8;omega))] ?_))
 refine .seq (.seq (.rg [ab_ (hf_ q.1 hS),a0_ (eok q.1=true) (fun h=>g8_ 5 q.1 1 (ao_ h) hS (by have:many q.1 ((5:Nat):Int)≤12:=kh_ h;omega) (by decide) (by decide)),a0_ (eok q.1=true) (fun h=>anj_ (wds q.1 1) w (by have:=(bk_ h 1).2.1;omega) (by omega) )] ?_))
 refine .cB (fun h30=>?_) fun h30=>?_
 ·refine .seq (.rg [] ?_)
  refine .ret ⟨.inr rfl,Out.pQ Tryz.results174 ?_⟩;simp[ex,jn_,n2 h8 h30,E0,E.kind,E.n,E.s,E.kids,eR,ler]
 refine .skip (.seq (.rg [] ?_))
 refine .ret ⟨.inr rfl,Out.pQ Tryz.results174 ?_⟩;simp[ex,jn_,n3 h8 h30,ad_]
end
section
attribute [local go_sem] hs_ gv_ in
theorem ad3_ (s:Str) (hs:s.length≤281474976710656):ACall En 107 [.s s] [] [.sl false (ai_ (be_ s)),.b (az_ s).isSome] []:=by
 have T:=wg_ s hs
 have hb:=uu_ s
 unfold be_
 generalize (az_ s).getD []=ts at *
 refine aa_ [] Tryz.func107 Tryz.ntmps107 fun C=>?_
 refine .seq (.rg [] ?_)
 refine .seq (.rg [ab_ T] ?_)
 refine .seq (.rg [] ?_)
 refine .seq (.seq (.rg [] ?_))
 refine .block (.loopK (fun k:Nat=>⟨[.no,.no,.no,.no,.sl false (tkR ts),.b (az_ s).isSome,.ow 23 1 0 k,.i .i64 k,.no,.no,.no,.no,.no,.no,.no,.no,.no,.no,.no,.no,.no,.no,.no,.no,.no,.no,.no,.no,.no,.no],ae_ [(23,⟨9,1,ai_ ((ts.take k).map (·.s))⟩)],us [23]⟩) (fun k:Nat=>k≤ts.length) (fun k:Nat=>ts.length - k) (0) ?_ ?_ (fun k hI=>?_))
 ·simp
 ·refine Can.trans (Can.ownSlot 6 23 9 1 (by simp only[go_sem,seval]<;>rfl) (by simp only[go_sem,seval]) (by simp only[go_sem,seval]<;>rfl)) ?_
  refine Can.wk ?_ ?_
  ·trivial
  (try simp[ai_])
 refine .seq (.seq (.rg [] ?_))
 refine .cB (fun h17=>?_) fun h17=>?_
 ·refine .skip (.seq (.block (.rgo [] ?_ ?_ (h:=by simp only[go_sem,seval,tv_ (show k<ts.length by simpa using h17)];rfl))))
  ·((simp only[decide_eq_true_eq]at h17;simp[ai_,c7_];omega))
  refine .rg [] ?_
  refine⟨k+1,?_,?_,?_⟩
  ·simp at h17;omega
  ·simp at h17;omega
  refine Can.trans (Can.sX 37 23) ?_
  refine Can.wk ?_ ?_
  ·rw[ac_ (by simp at h17;omega) (by simp at h17;omega)];(try simp)
  simp only[decide_eq_true_eq]at h17;rw[List.take_add_one,List.getElem?_eq_getElem (show k<ts.length by omega)];simp[-List.map_take, -List.take_append_getElem,ai_,List.getD_eq_getElem?_getD,List.getElem?_eq_getElem (show k<ts.length by omega)]
 refine .exit (.seq (.rg [] ?_))
 refine .fX 23 ?_
 refine .ret ⟨.inr rfl,Out.pQ Tryz.results107 ?_⟩;simp at h17;rw[List.take_of_length_le h17,if_pos (by simpa using hI)];simp[peel,leV,ad_,ai_,List.take_of_length_le,h17]
attribute [local go_sem] af_ ah_ in
theorem aw2_ (l:List Str) (hl:l.length<4611686018427387904):ACall En 175 [.sl false (ai_ l)] [] [.i .i64 (bh_ l bp_)] []:=by
 refine aa_ [] Tryz.func175 Tryz.ntmps175 fun C=>?_
 refine .seq (.rg [] ?_)
 refine .seq (.seq (.rg [] ?_))
 refine .block (.loopK (fun k:Nat=>⟨[.sl false (ai_ l),.no,.no,.i .i64 k,.no,.no,.no,.no,.no,.no,.no,.no,.no,.no,.no,.no],ae_ [],us []⟩) (fun k:Nat=>k≤l.length∧∀x∈l.take k,x≠bp_) (fun k:Nat=>l.length - k) (0) ?_ ?_ (fun k hI=>?_))
 ·simp
 ·refine Can.wh ?_;trivial
 refine .seq (.seq (.rg [] ?_))
 refine .cB (fun h7=>?_) fun h7=>?_
 ·refine .skip (.seq (.block (.seq (.rgo [] ?_ ?_ (h:=by simp only[go_sem,seval,an_ (show k<l.length by simpa using h7)];rfl)))))
  ·simp at h7;simp[af_,h7]
  refine .cB (fun h14=>?_) fun h14=>?_
  ·refine .seq (.rg [] ?_)
   refine .ret ⟨.inr rfl,Out.pP Tryz.results175 ?_⟩;simp at h7;obtain⟨g1,g2⟩:=uc_ h7 hI.2 (eq_of_beq h14);unfold bh_;rw[if_pos g1,g2]
  refine .skip (.rg [] ?_)
  refine⟨k+1,?_,?_,?_⟩
  ·simp at h7;refine⟨by omega,fun x hx=>?_⟩;rw[List.take_add_one,List.mem_append,List.getElem?_eq_getElem h7]at hx;rcases hx with hx|hx;exact hI.2 x hx;simp at hx;subst hx;simp[List.getD_eq_getElem?_getD,List.getElem?_eq_getElem h7]at h14;exact h14
  ·simp at h7;omega
  refine Can.wh ?_;rw[ac_ (by omega) (by omega)];simp
 refine .exit (.seq (.rg [] ?_))
 refine .ret ⟨.inr rfl,Out.pP Tryz.results175 ?_⟩;simp at h7;have:¬bp_∈l:=fun hm=>hI.2 bp_ (by rw[List.take_of_length_le h7];exact hm) rfl;simp[bh_,this]
attribute [local go_sem] af_ ah_ in
theorem aoh_ (l:List Str) (hl:l.length<4611686018427387904):ACall En 244 [.sl false (ai_ l)] [] [.i .i64 (bh_ l bz_)] []:=by
 refine aa_ [] Tryz.func244 Tryz.ntmps244 fun C=>?_
 refine .seq (.rg [] ?_)
 refine .seq (.seq (.rg [] ?_))
 refine .block (.loopK (fun k:Nat=>⟨[.sl false (ai_ l),.no,.no,.i .i64 k,.no,.no,.no,.no,.no,.no,.no,.no,.no,.no,.no,.no],ae_ [],us []⟩) (fun k:Nat=>k≤l.length∧∀x∈l.take k,x≠bz_) (fun k:Nat=>l.length - k) (0) ?_ ?_ (fun k hI=>?_))
 ·simp
 ·refine Can.wh ?_;trivial
 refine .seq (.seq (.rg [] ?_))
 refine .cB (fun h7=>?_) fun h7=>?_
 ·refine .skip (.seq (.block (.seq (.rgo [] ?_ ?_ (h:=by simp only[go_sem,seval,an_ (show k<l.length by simpa using h7)];rfl)))))
  ·simp at h7;simp[af_,h7]
  refine .cB (fun h14=>?_) fun h14=>?_
  ·refine .seq (.rg [] ?_)
   refine .ret ⟨.inr rfl,Out.pP Tryz.results244 ?_⟩;simp at h7;obtain⟨g1,g2⟩:=uc_ h7 hI.2 (eq_of_beq h14);unfold bh_;rw[if_pos g1,g2]
  refine .skip (.rg [] ?_)
  refine⟨k+1,?_,?_,?_⟩
  ·simp at h7;refine⟨by omega,fun x hx=>?_⟩;rw[List.take_add_one,List.mem_append,List.getElem?_eq_getElem h7]at hx;rcases hx with hx|hx;exact hI.2 x hx;simp at hx;subst hx;simp[List.getD_eq_getElem?_getD,List.getElem?_eq_getElem h7]at h14;exact h14
  ·simp at h7;omega
  refine Can.wh ?_;rw[ac_ (by omega) (by omega)];simp
 refine .exit (.seq (.rg [] ?_))
 refine .ret ⟨.inr rfl,Out.pP Tryz.results244 ?_⟩;simp at h7;have:¬bz_∈l:=fun hm=>hI.2 bz_ (by rw[List.take_of_length_le h7];exact hm) rfl;simp[bh_,this]
end
section
theorem aba_ (w:List Str) (k:Nat) (c:Bool) (hc:c=true→k<w.length):(c=true→c=true∧(k:Int)<w.length∧((ai_ w).getD k []).length=1)∧(c=true→(c=true∧1≤((ai_ w).getD k []).length)∧({ v:=((ai_ w).getD k []).getD 0 .no }:Eff)={ v:=.s (w.getD k []) }):=by
 have e:=fun h=>an_ (l:=w) (hc h)
 exact⟨fun h=>⟨h,by have:=hc h;omega,by rw[e h];rfl⟩,fun h=>⟨⟨h,by rw[e h];exact Nat.le_refl _⟩,by rw[e h];rfl⟩⟩
theorem jj_ {w:List Str} (h:((w.length:Int)==0)=false):0<w.length:=by
 rw[beq_eq_false_iff_ne]at h;omega
theorem yn_ {w:List Str} {b:Bool} (h:(w.getD 0 []==[108,101,116]&&decide ((w.length:Int) > 5)&&w.getD 2 []==[58]&&w.getD 4 []==[61])=b):(b=true↔(w.getD 0 []=jl_∧5<w.length∧w.getD 2 []=bz_∧w.getD 4 []=wEq)):=by
 rw[←h]
 simp only[Bool.and_eq_true,beq_iff_eq,decide_eq_true_eq,jl_,bz_,wEq,and_assoc]
 constructor
 ·rintro⟨a,b,c,d⟩;exact⟨a,by omega,c,d⟩
 rintro⟨a,b,c,d⟩;exact⟨a,by omega,c,d⟩
theorem aa5_ {w:List Str} {b:Bool} (h:(w.getD 0 []==[119,104,101,110]&&decide (bh_ w [115,97,121] > 0))=b):(b=true↔(w.getD 0 []=c8_∧0<bh_ w bp_)):=by
 rw[←h]
 simp only[Bool.and_eq_true,beq_iff_eq,decide_eq_true_eq,c8_,bp_]
 try exact Iff.rfl
attribute [local go_sem] asO af_ ah_ m3_ m5_ bp_ po_ dz_ in
theorem aqn_ (w:List Str) (hw:smW w) (hl:w.length≤100000):ACall En 108 [.sl false (ai_ w)] [] [.ag (sC (fc_ w).1),.b (fc_ w).2] []:=by
 have hs:=ti_ w bp_
 have hss:=aw2_ w (by omega)
 simp only[bp_]at hs hss
 have hsw:IntKind.i64.wrap (bh_ w [115,97,121]+1)=bh_ w [115,97,121]+1:=ac_ (by omega) (by omega)
 have ht:0<bh_ w [115,97,121]→(bh_ w [115,97,121]+1).toNat=(bh_ w [115,97,121]).toNat+1:=fun h=>by omega
 refine aa_ [] Tryz.func108 Tryz.ntmps108 fun C=>?_
 refine .seq (.rg [] ?_ (h:=by simp only[go_sem,seval,hsw];rfl))
 refine .seq (.rg [] ?_ (h:=by simp only[go_sem,seval,hsw];rfl))
 refine .seq (.block (.seq (.rg [] ?_ (h:=by simp only[go_sem,seval,hsw];rfl))))
 refine .cB (fun h15=>?_) (fun h15=>?_) (hc:=by simp only[go_sem,seval,hsw];rfl) (hp:=by simp only[go_sem,seval,hsw])
 ·refine .seq (.rg [] ?_ (h:=by simp only[go_sem,seval,hsw];rfl))
  refine .ret ⟨.inr rfl,?_⟩
  exact Out.plL (by simp only[Tryz.results108];rfl) (by simp only[ba_,go_sem,seval,hsw]<;>((have e:fc_ w=(S0,true):=(by unfold fc_;rw[if_pos (by simpa using h15)]));rw[e,a9_];simp[les,leV,ler,ad_,fw_,fs_,ft_,bq_,b6_,S0])) (h1:=by simp only[a1_,bn_,go_sem,seval,hsw]<;>(split<;>rfl)) (h3:=by simp only[go_sem,seval,hsw])
 refine .seq (.rgSo [33,39] [asO En { v:=.s (w.getD 2 []) },asO En { v:=.s (w.getD 4 []) }] ?_ ?_ (h:=by simp only[go_sem,seval,hsw,an_ (jj_ h15)];rfl))
 ·have k1:(w.getD 0 []==[108,101,116]&&decide ((w.length:Int) > 5))=true→2<w.length:=(fun h=>by simp only[Bool.and_eq_true,decide_eq_true_eq]at h;omega);have k2:(w.getD 0 []==[108,101,116]&&decide ((w.length:Int) > 5)&&w.getD 2 []==[58])=true→4<w.length:=(fun h=>by simp only[Bool.and_eq_true,decide_eq_true_eq]at h;omega);exact⟨⟨⟨⟨by have:=jj_ h15;omega,(aba_ w 2 _ k1).1⟩,(aba_ w 2 _ k1).2⟩,(aba_ w 4 _ k2).1⟩,(aba_ w 4 _ k2).2⟩
 refine .cB (fun h20=>?_) (fun h20=>?_) (hc:=by simp only[go_sem,seval,hsw];rfl) (hp:=by simp only[go_sem,seval,hsw])
 ·refine .seq (.rgo [ab_ (ea_ (w.drop 5) (bv_ hw 5) (by simp;omega))] ?_ ?_ (h:=by simp only[go_sem,seval,hsw];rfl))
  ·have h5:=((yn_ h20).1 rfl).2.1;refine⟨⟨by omega,.inr (of_eq_true (bb_ w))⟩,?_⟩;rw[List.take_length];exact ad_ _
  refine .seq (.rgDo [] ?_ ?_ (h:=by simp only[go_sem,seval,hsw,an_ (show 1<w.length by simp at h20;omega),an_ (show 3<w.length by simp at h20;omega)];rfl))
  ·have h5:=((yn_ h20).1 rfl).2.1;exact⟨by omega,rfl⟩
  refine .ret ⟨.inr rfl,?_⟩
  exact Out.plL (by simp only[Tryz.results108];rfl) (by simp only[ba_,go_sem,seval,hsw]<;>((have e:fc_ w=(⟨1,w.getD 1 [],w.getD 3 [],ex (w.drop 5),E0⟩,jn_ (w.drop 5)):=(by have:=jj_ h15;unfold fc_;rw[if_neg (by omega),if_pos ((yn_ h20).1 rfl)];rfl));rw[e,a9_];simp[les,leV,ler,ad_,fw_,fs_,ft_,bq_,b6_,jn_])) (h1:=by simp only[a1_,bn_,go_sem,seval,hsw]<;>(split<;>rfl)) (h3:=by simp only[go_sem,seval,hsw])
 refine .seq (.rgo [] ?_ ?_ (h:=by simp only[go_sem,seval,hsw,an_ (jj_ h15)];rfl))
 ·have:=jj_ h15;omega
 refine .cB (fun h57=>?_) (fun h57=>?_) (hc:=by simp only[go_sem,seval,hsw];rfl) (hp:=by simp only[go_sem,seval,hsw])
 ·refine .seq (.rgo [ab_ (ea_ (w.drop 1) (bv_ hw 1) (by simp;omega))] ?_ ?_ (h:=by simp only[go_sem,seval,hsw];rfl))
  ·have h5:=jj_ h15;refine⟨⟨by omega,.inr (of_eq_true (bb_ w))⟩,?_⟩;rw[List.take_length];exact ad_ _
  refine .seq (.rg [] ?_ (h:=by simp only[go_sem,seval,hsw];rfl))
  refine .ret ⟨.inr rfl,?_⟩
  exact Out.plL (by simp only[Tryz.results108];rfl) (by simp only[ba_,go_sem,seval,hsw]<;>((have e:fc_ w=(⟨2,[],[],ex (w.drop 1),E0⟩,jn_ (w.drop 1)):=(by have:=jj_ h15;unfold fc_;rw[if_neg (by omega),if_neg (fun h=>absurd ((yn_ h20).2 h) (by decide)),if_pos (by simpa[bp_]using h57)];rfl));rw[e,a9_];simp[les,leV,ler,ad_,fw_,fs_,ft_,bq_,b6_,jn_])) (h1:=by simp only[a1_,bn_,go_sem,seval,hsw]<;>(split<;>rfl)) (h3:=by simp only[go_sem,seval,hsw])
 refine .seq (.rgo [ab_ hss] ?_ ?_ (h:=by simp only[go_sem,seval,hsw,an_ (jj_ h15)];rfl))
 ·have:=jj_ h15;omega
 refine .cB (fun h71=>?_) (fun h71=>?_) (hc:=by simp only[go_sem,seval,hsw];rfl) (hp:=by simp only[go_sem,seval,hsw])
 ·refine .seq (.rg [ab_ hss] ?_ (h:=by simp only[go_sem,seval,hsw];rfl))
  refine .seq (.rgo [ab_ (ea_ ((w.take (bh_ w bp_).toNat).drop 1) (bv_ (hz_ hw _) 1) (by simp;omega))] ?_ ?_ (h:=by simp only[go_sem,seval,hsw];rfl))
  ·have h5:=((aa5_ h71).1 rfl).2;simp only[bp_]at h5;exact⟨⟨by omega,by omega,by omega,fun h=>absurd rfl h⟩,.inr (of_eq_true (bb_ w))⟩
  refine .seq (.rgo [ab_ (ea_ (w.drop ((bh_ w bp_).toNat+1)) (bv_ hw _) (by simp;omega))] ?_ ?_ (h:=by simp only[go_sem,seval,hsw];rfl))
  ·have h5:=((aa5_ h71).1 rfl).2;simp only[bp_]at h5;refine⟨⟨by omega,.inr (of_eq_true (bb_ w))⟩,?_⟩;rw[List.take_length,ht h5];exact ad_ _
  refine .seq (.rg [] ?_ (h:=by simp only[go_sem,seval,hsw];rfl))
  refine .ret ⟨.inr rfl,?_⟩
  exact Out.plL (by simp only[Tryz.results108];rfl) (by simp only[ba_,go_sem,seval,hsw]<;>((have e:fc_ w=(⟨3,[],[],ex ((w.take (bh_ w bp_).toNat).drop 1),ex (w.drop ((bh_ w bp_).toNat+1))⟩,jn_ ((w.take (bh_ w bp_).toNat).drop 1)&&jn_ (w.drop ((bh_ w bp_).toNat+1))):=(by have:=jj_ h15;unfold fc_;rw[if_neg (by omega),if_neg (fun h=>absurd ((yn_ h20).2 h) (by decide)),if_neg (by simpa[bp_]using h57),if_pos ((aa5_ h71).1 rfl)];rfl));rw[e,a9_];simp[bp_,les,leV,ler,ad_,fw_,fs_,ft_,bq_,b6_,jn_])) (h1:=by simp only[a1_,bn_,go_sem,seval,hsw]<;>(split<;>rfl)) (h3:=by simp only[go_sem,seval,hsw])
 refine .skip (.seq (.rg [] ?_ (h:=by simp only[go_sem,seval,hsw];rfl)))
 refine .ret ⟨.inr rfl,?_⟩
 exact Out.plL (by simp only[Tryz.results108];rfl) (by simp only[ba_,go_sem,seval,hsw]<;>((have e:fc_ w=(S0,false):=(by have:=jj_ h15;unfold fc_;rw[if_neg (by omega),if_neg (fun h=>absurd ((yn_ h20).2 h) (by decide)),if_neg (by simpa[bp_]using h57),if_neg (fun h=>absurd ((aa5_ h71).2 h) (by decide))]));rw[e,a9_];simp[les,leV,ler,ad_,fw_,fs_,ft_,bq_,b6_,S0])) (h1:=by simp only[a1_,bn_,go_sem,seval,hsw]<;>(split<;>rfl)) (h3:=by simp only[go_sem,seval,hsw])
theorem sh_ {line:Str} (h:¬((az_ line).isSome=true∧(fc_ (be_ line)).2=true∧sok (fc_ (be_ line)).1=true∧ap_ (sw' (fc_ (be_ line)).1)=line)):nz_ line=none:=by
 unfold nz_ be_ at *
 cases ht:az_ line with
 |none=>rfl
 |some ts=>
  rw[ht]at h
  simp only[Option.getD_some]at h
  dsimp only
  rw[if_neg]
  exact fun q=>h ⟨rfl,q⟩
theorem ad0_ {line:Str} (h:(az_ line).isSome=true) (h0:(fc_ (be_ line)).2=true) (h1:sok (fc_ (be_ line)).1=true) (h2:ap_ (sw' (fc_ (be_ line)).1)=line):nz_ line=some (fc_ (be_ line)).1:=by
 unfold nz_ be_ at *
 cases ht:az_ line with
 |none=>rw[ht]at h;cases h
 |some ts=>
  rw[ht]at h0 h1 h2
  simp only[Option.getD_some]at h0 h1 h2 ⊢
  rw[if_pos ⟨h0,h1,h2⟩]
theorem azo_ {w:List Str} (h:smW w):d6_ (fc_ w).1=true:=by
 have g:=tt_ h
 have e:=fun k=>sy_ (bv_ h k)
 have e0:sm E0=true:=by decide
 unfold fc_
 split
 ·decide
 split
 ·simp only[d6_,e,e0,Bool.and_true,Bool.and_eq_true,decide_eq_true_eq];have:=g 1;have:=g 3;omega
 split
 ·simp only[d6_,e,e0,Bool.and_true];rfl
 split
 ·simp only[d6_,e,sy_ (bv_ (hz_ h _) 1),Bool.and_true];rfl
 decide
attribute [local go_sem] ah_ po_ a9_ in
theorem s5_ (line:Str) (hl:line.length≤281474976710656):ACall En 53 [.s line] [] [.ag (sC ((ch_ line).getD S0)),.b (ch_ line).isSome] []:=by
 obtain⟨w1,w2⟩:=mz_ line
 have hs:=azo_ w1
 rw[apy_]
 refine aa_ [] Tryz.func53 Tryz.ntmps53 fun C=>?_
 refine .seq (.rg [] ?_)
 refine .seq (.rg [ab_ (ad3_ line hl)] ?_)
 refine .seq (.seq (.rg [] ?_))
 refine .cB (fun h14=>?_) fun h14=>?_
 ·refine .seq (.rg [] ?_)
  refine .ret ⟨.inr rfl,Out.pQ Tryz.results53 ?_⟩;rw[sh_ (fun q=>by rw[q.1]at h14;simp at h14)];simp[S0,les,leV,ler,ad_,fw_,fs_,ft_,bq_,b6_]
 refine .skip (.seq (.rg [ab_ (aqn_ (be_ line) w1 (by omega))] ?_))
 refine .seq (.seq (.rg [ab_ (mw_ (fc_ (be_ line)).1 hs),a0_ (sok (fc_ (be_ line)).1=true) (fun h=>km_ (fc_ (be_ line)).1 (de_ h) hs),a0_ (sok (fc_ (be_ line)).1=true) (fun h=>ee_ (sw' (fc_ (be_ line)).1) (by have:=(o9_ (de_ h)).1;omega) (by have:=oz_ (de_ h);omega))] ?_))
 refine .cB (fun h34=>?_) fun h34=>?_
 ·refine .seq (.rg [] ?_)
  refine .ret ⟨.inr rfl,Out.pQ Tryz.results53 ?_⟩;rw[sh_ (by intro q;simp[q.1,q.2.1,q.2.2]at h34)];simp[S0,les,leV,ler,ad_,fw_,fs_,ft_,bq_,b6_]
 refine .skip (.seq (.rg [] ?_))
 refine .ret ⟨.inr rfl,Out.pQ Tryz.results53 ?_⟩;rw[ad0_ (by simp at h14;exact h14) (by simp at h34;exact h34.1.1) (by simp at h34;exact h34.1.2) (by simp at h34;exact h34.2)];simp[les,leV,ler,ad_]
end
section
theorem l7if {w:List Str} {b:Bool} (h:((w.getD 0 []==[105,102]&&decide (bh_ w [58] > 0))&&atI w (bh_ w [58]+1)==[112,114,105,110,116])=b):(b=true↔(w.getD 0 []=wIf∧0<bh_ w bz_∧w.getD ((bh_ w bz_).toNat+1) []=bj_)):=by
 have e:0<bh_ w [58]→atI w (bh_ w [58]+1)=w.getD ((bh_ w [58]).toNat+1) []:=fun q=>by
  unfold atI
  rw[if_pos (by omega),show(bh_ w [58]+1).toNat=(bh_ w [58]).toNat+1 by omega]
 rw[←h]
 simp only[Bool.and_eq_true,beq_iff_eq,decide_eq_true_eq,wIf,bz_,bj_,and_assoc]
 constructor
 ·rintro⟨a,b,c⟩;exact⟨a,b,by rw[←e b];exact c⟩
 rintro⟨a,b,c⟩;exact⟨a,b,by rw[e b];exact c⟩
theorem awm_ {w:List Str} (h:w.getD ((bh_ w bz_).toNat+1) []=bj_):(bh_ w bz_).toNat+1<w.length:=j4_ fun e=>by rw[e]at h;exact absurd h (by decide)
theorem l7eq {w:List Str} {b:Bool} (h:(atI w 1==[61])=b):(b=true↔w.getD 1 []=wEq):=by
 rw[←h,show atI w 1=w.getD 1 []from rfl];simp[wEq]
attribute [local go_sem] af_ ah_ m3_ m5_ bz_ qh_ dz_ in
theorem auf_ (w:List Str) (hw:smW w) (hl:w.length≤100000):ACall En 185 [.sl false (ai_ w)] [] [.ag (bC (ff_ w).1),.b (ff_ w).2] []:=by
 have hs:=ti_ w bz_
 have hss:=aoh_ w (by omega)
 simp only[bz_]at hs hss
 have hsw:IntKind.i64.wrap (bh_ w [58]+2)=bh_ w [58]+2:=ac_ (by omega) (by omega)
 have hsw1:IntKind.i64.wrap (bh_ w [58]+1)=bh_ w [58]+1:=ac_ (by omega) (by omega)
 have ht:0<bh_ w [58]→(bh_ w [58]+2).toNat=(bh_ w [58]).toNat+2:=fun h=>by omega
 refine aa_ [] Tryz.func185 Tryz.ntmps185 fun C=>?_
 refine .seq (.rg [] ?_ (h:=by simp only[go_sem,seval,hsw,hsw1];rfl))
 refine .seq (.rg [ab_ hss] ?_ (h:=by simp only[go_sem,seval,hsw,hsw1];rfl))
 refine .seq (.block (.seq (.rg [] ?_ (h:=by simp only[go_sem,seval,hsw,hsw1];rfl))))
 refine .cB (fun h15=>?_) (fun h15=>?_) (hc:=by simp only[go_sem,seval,hsw,hsw1];rfl) (hp:=by simp only[go_sem,seval,hsw,hsw1])
 ·refine .seq (.rg [] ?_ (h:=by simp only[go_sem,seval,hsw,hsw1];rfl))
  refine .ret ⟨.inr rfl,?_⟩
  exact Out.plL (by simp only[Tryz.results185];rfl) (by simp only[ba_,go_sem,seval,hsw,hsw1]<;>((have e:ff_ w=(B0,true):=(by unfold ff_;rw[if_pos (by simpa using h15)]));rw[e,cp_];simp[les,leV,ler,ad_,fw_,fs_,ft_,bq_,b6_,B0])) (h1:=by simp only[a1_,bn_,go_sem,seval,hsw,hsw1]<;>(split<;>rfl)) (h3:=by simp only[go_sem,seval,hsw,hsw1])
 refine .seq (.rgo [] ?_ ?_ (h:=by simp only[go_sem,seval,hsw,hsw1,an_ (jj_ h15)];rfl))
 ·((have:=jj_ h15;omega))
 refine .cB (fun h20=>?_) (fun h20=>?_) (hc:=by simp only[go_sem,seval,hsw,hsw1];rfl) (hp:=by simp only[go_sem,seval,hsw,hsw1])
 ·refine .seq (.rgo [ab_ (ea_ (w.drop 1) (bv_ hw 1) (by simp;omega))] ?_ ?_ (h:=by simp only[go_sem,seval,hsw,hsw1];rfl))
  ·have h5:=jj_ h15;refine⟨⟨by omega,.inr (of_eq_true (bb_ w))⟩,?_⟩;rw[List.take_length];exact ad_ _
  refine .seq (.rg [] ?_ (h:=by simp only[go_sem,seval,hsw,hsw1];rfl))
  refine .ret ⟨.inr rfl,?_⟩
  exact Out.plL (by simp only[Tryz.results185];rfl) (by simp only[ba_,go_sem,seval,hsw,hsw1]<;>((have e:ff_ w=(⟨2,[],ex (w.drop 1),E0⟩,jn_ (w.drop 1)):=(by have:=jj_ h15;unfold ff_;rw[if_neg (by omega),if_pos (by simpa[bj_]using h20)];rfl));rw[e,cp_];simp[les,leV,ler,ad_,fw_,fs_,ft_,bq_,b6_,jn_])) (h1:=by simp only[a1_,bn_,go_sem,seval,hsw,hsw1]<;>(split<;>rfl)) (h3:=by simp only[go_sem,seval,hsw,hsw1])
 refine .seq (.rgo [ab_ (lg_ w (bh_ w [58]+1))] ?_ ?_ (h:=by simp only[go_sem,seval,hsw,hsw1,an_ (jj_ h15)];rfl))
 ·((have:=jj_ h15;omega))
 refine .cB (fun h34=>?_) (fun h34=>?_) (hc:=by simp only[go_sem,seval,hsw,hsw1];rfl) (hp:=by simp only[go_sem,seval,hsw,hsw1])
 ·refine .seq (.rgo [ab_ (ea_ ((w.take (bh_ w bz_).toNat).drop 1) (bv_ (hz_ hw _) 1) (by simp;omega))] ?_ ?_ (h:=by simp only[go_sem,seval,hsw,hsw1];rfl))
  ·have h5:=((l7if h34).1 rfl).2.1;simp only[bz_]at h5;exact⟨⟨by omega,by omega,by omega,fun h=>absurd rfl h⟩,.inr (of_eq_true (bb_ w))⟩
  refine .seq (.rgo [ab_ (ea_ (w.drop ((bh_ w bz_).toNat+2)) (bv_ hw _) (by simp;omega))] ?_ ?_ (h:=by simp only[go_sem,seval,hsw,hsw1];rfl))
  ·have h5:=((l7if h34).1 rfl).2;have h6:=awm_ h5.2;simp only[bz_]at h5 h6;refine⟨⟨by omega,.inr (of_eq_true (bb_ w))⟩,?_⟩;rw[List.take_length,ht h5.1];exact ad_ _
  refine .seq (.rg [] ?_ (h:=by simp only[go_sem,seval,hsw,hsw1];rfl))
  refine .ret ⟨.inr rfl,?_⟩
  exact Out.plL (by simp only[Tryz.results185];rfl) (by simp only[ba_,go_sem,seval,hsw,hsw1]<;>((have e:ff_ w=(⟨3,[],ex ((w.take (bh_ w bz_).toNat).drop 1),ex (w.drop ((bh_ w bz_).toNat+2))⟩,jn_ ((w.take (bh_ w bz_).toNat).drop 1)&&jn_ (w.drop ((bh_ w bz_).toNat+2))):=(by have:=jj_ h15;unfold ff_;rw[if_neg (by omega),if_neg (by simpa[bj_]using h20),if_pos ((l7if h34).1 rfl)];rfl));rw[e,cp_];simp[bz_,les,leV,ler,ad_,fw_,fs_,ft_,bq_,b6_,jn_])) (h1:=by simp only[a1_,bn_,go_sem,seval,hsw,hsw1]<;>(split<;>rfl)) (h3:=by simp only[go_sem,seval,hsw,hsw1])
 refine .seq (.rg [ab_ (lg_ w 1)] ?_ (h:=by simp only[go_sem,seval,hsw,hsw1];rfl))
 refine .cB (fun h72=>?_) (fun h72=>?_) (hc:=by simp only[go_sem,seval,hsw,hsw1];rfl) (hp:=by simp only[go_sem,seval,hsw,hsw1])
 ·refine .seq (.rgo [ab_ (ea_ (w.drop 2) (bv_ hw 2) (by simp;omega))] ?_ ?_ (h:=by simp only[go_sem,seval,hsw,hsw1];rfl))
  ·have h5:1<w.length:=j4_ (by rw[(l7eq h72).1 rfl];decide);refine⟨⟨by omega,.inr (of_eq_true (bb_ w))⟩,?_⟩;rw[List.take_length];exact ad_ _
  refine .seq (.rgDo [] ?_ ?_ (h:=by simp only[go_sem,seval,hsw,hsw1,an_ (jj_ h15)];rfl))
  ·have:=jj_ h15;exact⟨by omega,rfl⟩
  refine .ret ⟨.inr rfl,?_⟩
  exact Out.plL (by simp only[Tryz.results185];rfl) (by simp only[ba_,go_sem,seval,hsw,hsw1]<;>((have e:ff_ w=(⟨1,w.getD 0 [],ex (w.drop 2),E0⟩,jn_ (w.drop 2)):=(by have:=jj_ h15;unfold ff_;rw[if_neg (by omega),if_neg (by simpa[bj_]using h20),if_neg (fun h=>absurd ((l7if h34).2 h) (by decide)),if_pos ((l7eq h72).1 rfl)];rfl));rw[e,cp_];simp[les,leV,ler,ad_,fw_,fs_,ft_,bq_,b6_,jn_])) (h1:=by simp only[a1_,bn_,go_sem,seval,hsw,hsw1]<;>(split<;>rfl)) (h3:=by simp only[go_sem,seval,hsw,hsw1])
 refine .skip (.seq (.rg [] ?_ (h:=by simp only[go_sem,seval,hsw,hsw1];rfl)))
 refine .ret ⟨.inr rfl,?_⟩
 exact Out.plL (by simp only[Tryz.results185];rfl) (by simp only[ba_,go_sem,seval,hsw,hsw1]<;>((have e:ff_ w=(B0,false):=(by have:=jj_ h15;unfold ff_;rw[if_neg (by omega),if_neg (by simpa[bj_]using h20),if_neg (fun h=>absurd ((l7if h34).2 h) (by decide)),if_neg (fun h=>absurd ((l7eq h72).2 h) (by decide))]));rw[e,cp_];simp[les,leV,ler,ad_,fw_,fs_,ft_,bq_,b6_,B0])) (h1:=by simp only[a1_,bn_,go_sem,seval,hsw,hsw1]<;>(split<;>rfl)) (h3:=by simp only[go_sem,seval,hsw,hsw1])
theorem sf_ {line:Str} (h:¬((az_ line).isSome=true∧(ff_ (be_ line)).2=true∧bok (ff_ (be_ line)).1=true∧ap_ (bw (ff_ (be_ line)).1)=line)):oa_ line=none:=by
 unfold oa_ be_ at *
 cases ht:az_ line with
 |none=>rfl
 |some ts=>
  rw[ht]at h
  simp only[Option.getD_some]at h
  dsimp only
  rw[if_neg]
  exact fun q=>h ⟨rfl,q⟩
theorem aga_ {line:Str} (h:(az_ line).isSome=true) (h0:(ff_ (be_ line)).2=true) (h1:bok (ff_ (be_ line)).1=true) (h2:ap_ (bw (ff_ (be_ line)).1)=line):oa_ line=some (ff_ (be_ line)).1:=by
 unfold oa_ be_ at *
 cases ht:az_ line with
 |none=>rw[ht]at h;cases h
 |some ts=>
  rw[ht]at h0 h1 h2
  simp only[Option.getD_some]at h0 h1 h2 ⊢
  rw[if_pos ⟨h0,h1,h2⟩]
theorem azp_ {w:List Str} (h:smW w):smb (ff_ w).1=true:=by
 have g:=tt_ h
 have e:=fun k=>sy_ (bv_ h k)
 have e0:sm E0=true:=by decide
 unfold ff_
 split
 ·decide
 split
 ·simp only[smb,e,e0,Bool.and_true];rfl
 split
 ·simp only[smb,e,sy_ (bv_ (hz_ h _) 1),Bool.and_true];rfl
 split
 ·simp only[smb,e,e0,Bool.and_true,decide_eq_true_eq];have:=g 0;omega
 decide
attribute [local go_sem] ah_ qh_ cp_ in
theorem ac3_ (line:Str) (hl:line.length≤281474976710656):ACall En 122 [.s line] [] [.ag (bC ((el_ line).getD B0)),.b (el_ line).isSome] []:=by
 obtain⟨w1,w2⟩:=mz_ line
 have hs:=azp_ w1
 rw[ar3_]
 refine aa_ [] Tryz.func122 Tryz.ntmps122 fun C=>?_
 refine .seq (.rg [] ?_)
 refine .seq (.rg [ab_ (ad3_ line hl)] ?_)
 refine .seq (.seq (.rg [] ?_))
 refine .cB (fun h14=>?_) fun h14=>?_
 ·refine .seq (.rg [] ?_)
  refine .ret ⟨.inr rfl,Out.pQ Tryz.results122 ?_⟩;rw[sf_ (fun q=>by rw[q.1]at h14;simp at h14)];simp[B0,les,leV,ler,ad_,fw_,fs_,ft_,bq_,b6_]
 refine .skip (.seq (.rg [ab_ (auf_ (be_ line) w1 (by omega))] ?_))
 refine .seq (.seq (.rg [ab_ (x6_ (ff_ (be_ line)).1 hs),a0_ (bok (ff_ (be_ line)).1=true) (fun h=>sa_ (ff_ (be_ line)).1 (amn_ h) hs),a0_ (bok (ff_ (be_ line)).1=true) (fun h=>ee_ (bw (ff_ (be_ line)).1) (by have:=(nu_ (amn_ h)).1;omega) (by have:=ov_ (amn_ h);omega))] ?_))
 refine .cB (fun h34=>?_) fun h34=>?_
 ·refine .seq (.rg [] ?_)
  refine .ret ⟨.inr rfl,Out.pQ Tryz.results122 ?_⟩;rw[sf_ (by intro q;simp[q.1,q.2.1,q.2.2]at h34)];simp[B0,les,leV,ler,ad_,fw_,fs_,ft_,bq_,b6_]
 refine .skip (.seq (.rg [] ?_))
 refine .ret ⟨.inr rfl,Out.pQ Tryz.results122 ?_⟩;rw[aga_ (by simp at h14;exact h14) (by simp at h34;exact h34.1.1) (by simp at h34;exact h34.1.2) (by simp at h34;exact h34.2)];simp[les,leV,ler,ad_]
end
section
theorem aa7_ {s:Str} {k:Nat} (h:k<s.length) (w:Int):gy_ (s.drop k) w=if ((s.getD k 0).toNat:Int)=10 then gy_ (s.drop (k+1)) 0 else decide (32≤((s.getD k 0).toNat:Int))&&decide (((s.getD k 0).toNat:Int)≤126)&&decide (w+1≤120)&&gy_ (s.drop (k+1)) (w+1):=by
 have e:s.drop k=s.getD k 0::s.drop (k+1):=by
  rw[List.drop_eq_getElem_cons h,List.getD_eq_getElem?_getD,List.getElem?_eq_getElem h];rfl
 rw[e,gy_]
 by_cases hc:s.getD k 0=10
 ·rw[if_pos hc,if_pos (by rw[hc];rfl)]
 rw[if_neg hc,if_neg (fun q=>hc (by apply UInt8.toNat_inj.1;show _=10;omega))]
 congr 2
 congr 1
 ·exact decide_eq_decide.2 (by omega)
 exact decide_eq_decide.2 (by omega)
theorem vw_ {s:Str} {k:Nat} (h:k<s.length) {w:Int} (h15:¬((s.getD k 0).toNat:Int)=10):gy_ (s.drop k) w=(!(decide (((s.getD k 0).toNat:Int)<32)||decide (((s.getD k 0).toNat:Int) > 126)||decide (w+1 > 120))&&gy_ (s.drop (k+1)) (w+1)):=by
 rw[aa7_ h,if_neg h15]
 generalize ((s.getD k 0).toNat:Int)=c
 rw[show decide (32≤c)=!decide (c<32) by rw[←decide_not];exact decide_eq_decide.2 (by omega),show decide (c≤126)=!decide (c > 126) by rw[←decide_not];exact decide_eq_decide.2 (by omega),show decide (w+1≤120)=!decide (w+1 > 120) by rw[←decide_not];exact decide_eq_decide.2 (by omega)]
 cases decide (c<32)<;>cases decide (c > 126)<;>cases decide (w+1 > 120)<;>rfl
theorem nc_ {s:Str} (h:tOk s=true):s.length≤4000:=by simp only[tOk,Bool.and_eq_true,decide_eq_true_eq]at h;exact h.2
theorem yr_ (s:Str) (hs:s.length≤281474976710656):ACall En 70 [.s s] [] [.b (tOk s)] []:=by
 refine aa_ [] Tryz.func70 Tryz.ntmps70 fun C=>?_
 refine .seq (.rg [] ?_)
 refine .seq (.rg [] ?_)
 refine .seq (.seq (.rg [] ?_))
 refine .block (.loopK (fun q:Nat × Int=>⟨[.s s,.no,.no,.i .i64 q.2,.no,.no,.i .i64 s.length,.i .i64 q.1,.no,.no,.no,.no,.no,.no,.no,.no,.no,.no,.no,.no,.no,.no,.no,.no,.no,.no,.no,.no,.no,.no,.no,.no,.no,.no],ae_ [],us []⟩) (fun q:Nat × Int=>q.1≤s.length∧0≤q.2∧q.2≤120∧gy_ (s.drop q.1) q.2=gy_ s 0) (fun q:Nat × Int=>s.length - q.1) ((0,0)) ?_ ?_ (fun q hI=>?_))
 ·exact⟨by simp,by decide,by decide,rfl⟩
 ·refine Can.wh ?_;trivial
 refine .seq (.rg [] ?_)
 refine .seq (.cB (fun h8=>?_) fun h8=>?_)
 ·refine .skip (.seqJ (fun p:Int=>⟨[.s s,.no,.no,.i .i64 p,.no,.no,.i .i64 s.length,.i .i64 q.1,.no,.no,.no,.no,.no,.no,.no,.no,.no,.no,.no,.no,.no,.no,.no,.no,.no,.no,.no,.no,.no,.no,.no,.no,.no,.no],ae_ [],us []⟩) (fun p:Int=>0≤p∧p≤120∧gy_ (s.drop (q.1+1)) p=gy_ s 0) ?_ (fun p hJ=>?_))
  ·refine .block (.seq (.rg [] ?_))
   refine .seq (.rg [] ?_)
   refine .seq (.rgo [] ?_ ?_)
   ·simp at h8;simp;omega
   refine .cB (fun h15=>?_) fun h15=>?_
   ·refine .rg [] ?_
    refine⟨0,?_,?_⟩
    ·(have e:=aa7_ (show q.1<s.length by simpa using h8) q.2;rw[if_pos (by simpa using h15)]at e;exact⟨by decide,by decide,by rw[←e];exact hI.2.2.2⟩)
    refine Can.wh ?_;trivial
   refine .seq (.rgo [] ?_ ?_)
   ·simp only[decide_eq_true_eq]at h8;exact⟨⟨⟨⟨by omega,by omega⟩,fun h=>⟨h,by omega,by omega⟩⟩,fun h=>by rw[h];rfl⟩,fun h=>by rw[h];rfl⟩
   refine .cB (fun h29=>?_) fun h29=>?_
   ·refine .seq (.rg [] ?_)
    refine .ret ⟨.inr rfl,Out.pP Tryz.results70 ?_⟩;have e:=vw_ (show q.1<s.length by simpa using h8) (w:=q.2) (by simpa using h15);rw[ac_ (by omega) (by omega)]at h29;rw[h29]at e;unfold tOk;rw[←hI.2.2.2,e];rfl
   refine .skip ?_
   refine⟨q.2+1,?_,?_⟩
   ·(have e:=vw_ (show q.1<s.length by simpa using h8) (w:=q.2) (by simpa using h15);rw[ac_ (by omega) (by omega)]at h29;rw[h29]at e;simp only[Bool.or_eq_false_iff,decide_eq_false_iff_not]at h29;exact⟨by omega,by omega,by rw[←hI.2.2.2,e];rfl⟩)
   refine Can.wh ?_;rw[ac_ (by omega) (by omega)]
  refine .rg [] ?_
  refine Exists.intro ((q.1+1,p)) ⟨?_,?_,?_⟩
  ·simp at h8;exact⟨by dsimp only;omega,hJ.1,hJ.2.1,hJ.2.2⟩
  ·simp at h8;dsimp only;omega
  refine Can.wh ?_;rw[ac_ (by omega) (by omega)];simp
 refine .exit (.seq (.rg [] ?_))
 refine .ret ⟨.inr rfl,Out.pP Tryz.results70 ?_⟩;simp only[decide_eq_false_iff_not]at h8;have e:=hI.2.2.2;rw[List.drop_of_length_le (by omega)]at e;unfold tOk;rw[←e];simp only[gy_,Bool.true_and];rw[show decide ((s.length:Int)≤4000)=decide (s.length≤4000)from decide_eq_decide.2 (by omega)]
attribute [local go_sem] ah_ af_ in
theorem aj2_ (l:List Str) (hl:l.length<1099511627776):ACall En 71 [.sl false (ai_ l)] [] [.sl false (ai_ l)] []:=by
 refine aa_ [] Tryz.func71 Tryz.ntmps71 fun C=>?_
 refine .seq (.rg [] ?_)
 refine .seq (.rg [] ?_)
 refine .ret ⟨.inr rfl,Out.pQ Tryz.results71 ?_⟩;rw[List.take_of_length_le (by rw[af_];exact Nat.le_refl _)];exact ad_ _
attribute [local go_sem] ah_ in
theorem li_ (s:Str) (hs:s.length≤281474976710656):ACall En 34 [.s s] [] [.sl false (ai_ (bo_ s))] []:=by
 refine aa_ [] Tryz.func34 Tryz.ntmps34 fun C=>?_
 refine .seq (.rg [] ?_)
 refine .seq (.seq (.rg [ab_ (yr_ s hs)] ?_))
 refine .cB (fun h5=>?_) fun h5=>?_
 ·refine .seq (.rg [] ?_)
  refine .ret ⟨.inr rfl,Out.pQ Tryz.results34 ?_⟩;simp at h5;simp[bo_,h5,ai_,ler]
 refine .skip (.seq (.rgo [a0_ (tOk s=true) (fun h=>axg_ s (by have:=nc_ h;omega)),a0_ (tOk s=true) (fun h=>aj2_ (spl s) (by have:=tz_ s;have:=nc_ h;omega))] ?_ ?_))
 ·((simpa using h5))
 refine .ret ⟨.inr rfl,Out.pQ Tryz.results34 ?_⟩;simp at h5;simp[bo_,h5,ad_,leV]
end
end Go.Proofs.YthjccajoadjicaaGreatDoor
