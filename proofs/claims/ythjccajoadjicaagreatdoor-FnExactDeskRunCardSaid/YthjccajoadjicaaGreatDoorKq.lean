/- The desk: the reference's. Conditions: none. -/
import Derived.Test.YthjccajoadjicaaGreatDoorKl
import Derived.Test.YthjccajoadjicaaGreatDoorKo
import Derived.Test.YthjccajoadjicaaGreatDoorKp
import Derived.Test.YthjccajoadjicaaGreatDoorKn
import Derived.Test.YthjccajoadjicaaGreatDoorKe
import Derived.Test.YthjccajoadjicaaGreatDoorKc
import Derived.Test.YthjccajoadjicaaGreatDoorKk
import Derived.Test.YthjccajoadjicaaGreatDoorKj
import Derived.Test.YthjccajoadjicaaGreatDoorKh
set_option linter.unusedVariables false
set_option linter.unusedSimpArgs false
namespace Go.Proofs.YthjccajoadjicaaGreatDoor
section
set_option maxRecDepth 100000
set_option maxHeartbeats 8000000
def nums (l:List Str):List Int:=if l.all bd_ then l.map fun w=>(av_ w:Int)else []
theorem als_ {l:List Str} {k:Nat} (h:k<l.length):(l.take (k+1)).map (fun w=>(av_ w:Int))=(l.take k).map (fun w=>(av_ w:Int))++[(av_ (l.getD k []):Int)]:=by
 rw[List.take_add_one,T6_ h,List.map_append,T8_,T6_ h];rfl
theorem ax3_ {l:List Str} {k:Nat} (h:k<l.length):(l.take (k+1)).all bd_=((l.take k).all bd_&&bd_ (l.getD k [])):=by
 rw[List.take_add_one,T6_ h,List.all_append,T8_,T6_ h];simp
theorem ue_ (w:Str):(!(f4_ w).2||decide ((f4_ w).1<0)||decide ((f4_ w).1 > 1000000))=!bd_ w:=by
 rw[←(pc_ w).1,show decide ((f4_ w).1<0)=!decide (0≤(f4_ w).1) by rw[←decide_not];exact decide_eq_decide.2 (by omega),show decide ((f4_ w).1 > 1000000)=!decide ((f4_ w).1≤1000000) by rw[←decide_not];exact decide_eq_decide.2 (by omega)]
 simp only[Bool.not_and,Bool.or_assoc]
attribute [local go_sem] al_ aq_ ao_ as_ in
theorem xi_ (l:List Str) (hl:l.length≤100000) (hw:∀w∈l,w.length≤100000):ACall En 55 [.sl false (an_ l)] [] [.sl false (inR (nums l)),.b (l.all bd_)] []:=by
 refine aa_ [] Tryz.func55 Tryz.ntmps55 fun C=>?_
 refine .seq (.rg [] ?_)
 refine .seq (.rg [] ?_)
 refine .seq (.seq (.rg [] ?_))
 refine .block (.loopK (fun k:Nat=>⟨[.sl false (an_ l),.no,.no,.no,.ow 20 1 0 k,.i .i64 k,.no,.no,.no,.no,.no,.no,.no,.no,.no,.no,.no,.no,.no,.no,.no,.no,.no,.no,.no,.no,.no,.no,.no,.no,.no,.no,.no,.no,.no,.no,.no,.no],ak_ [(20,⟨3,1,inR ((l.take k).map fun w=>(av_ w:Int))⟩)],us [20]⟩) (fun k:Nat=>k≤l.length∧(l.take k).all bd_=true) (fun k:Nat=>l.length - k) (0) ?_ ?_ (fun k hI=>?_))
 ·exact⟨Nat.zero_le _,rfl⟩
 ·refine Can.trans (Can.ownSlot 4 20 3 1 (by simp only[go_sem,seval]<;>rfl) (by simp only[go_sem,seval]) (by simp only[go_sem,seval]<;>rfl)) ?_
  refine Can.wk ?_ ?_
  ·first|trivial|((try simp))
  ·first|trivial|((try simp[inR]))
 refine .seq (.seq (.rg [] ?_))
 refine .cB (fun h12=>?_) (fun h12=>?_)
 ·refine .skip (.seq (.block (.seq (.rgo [a4_ (k<l.length) (fun h=>v5_ (l.getD k []) (by have:=hw _ (am_ (d:=[]) h);omega))] ?_ ?_ (h:=by simp only[go_sem,seval,aw_ (show k<l.length by simpa using h12)];rfl)))))
  ·simp at h12;simp;omega
  refine .seq (.seq (.rgo [] ?_ ?_))
  ·exact⟨fun h=>by rw[h];rfl,fun h=>by rw[h];rfl⟩
  refine .cB (fun h32=>?_) (fun h32=>?_)
  ·refine .seq (.rg [] ?_)
   refine .ret ⟨.inr rfl,?_⟩
   exact Out.plL (by simp only[Tryz.results55];rfl) (by simp only[ag_,go_sem,seval]<;>(simp at h12;rw[ue_]at h32;have e:l.all bd_=false:=(List.all_eq_false.2 ⟨l.getD k [],am_ h12,by simpa using h32⟩);unfold nums;rw[e];exact⟨by simp[inR,ler],rfl⟩))
  ·refine .skip (.rgo [] ?_ ?_)
   ·simp at h12;exact⟨fun r hr=>by simp at hr;subst hr;rfl,by simp,by simp;omega,by omega⟩
   refine .rg [] ?_
   refine Exists.intro (k+1) ⟨?_,?_,?_⟩
   ·simp at h12;rw[ue_]at h32;exact⟨by omega,by rw[ax3_ h12,hI.2];simpa using h32⟩
   ·simp at h12;omega
   refine Can.trans (Can.sX 46 20) ?_
   refine Can.wk ?_ ?_
   ·first|trivial|(simp at h12;rw[aj_ (by omega) (by omega)];rfl)
   ·first|trivial|(simp at h12;rw[ue_]at h32;rw[als_ h12,(pc_ (l.getD k [])).2 (by simpa using h32),t1_];rfl)
 ·refine .exit (.seq (.rg [] ?_))
  refine .fX 20 ?_
  refine .ret ⟨.inr rfl,?_⟩
  exact Out.plL (by simp only[Tryz.results55];rfl) (by simp only[ag_,go_sem,seval]<;>(simp only[T4_]at h12;have e:=hI.2;rw[List.take_of_length_le (l:=l) (by omega)]at e ⊢;rw[e,if_pos (by simp;omega),T1_ (by rw[as_];simp;omega)];unfold nums;rw[if_pos e];exact⟨fp_ _,rfl⟩))
attribute [local go_sem] al_ aq_ in
theorem qm_ (w:List Str) (k:Nat) (hw:j7_ w≤100000) (hk:k≤2):ACall En 57 [.sl false (an_ w),.i .i64 k] [] [.s (ax_ (w.drop k))] []:=by
 have h1:=gv_ w
 have h2:=rl_ w k
 refine aa_ [] Tryz.func57 Tryz.ntmps57 fun C=>?_
 refine .seq (.rg [] ?_)
 refine .seq (.seq (.rg [] ?_))
 refine .cB (fun h8=>?_) (fun h8=>?_)
 ·refine .seq (.rg [] ?_)
  refine .ret ⟨.inr rfl,?_⟩
  exact Out.pl (by simp only[Tryz.results57];rfl) (by simp only[ag_,go_sem,seval]<;>(simp only[T3_]at h8;rw[List.drop_of_length_le (by omega)];rfl))
 ·refine .skip (.seq (.rgo [ab_ (ew_ (w.drop k) (by rw[List.length_drop];omega) (by omega))] ?_ ?_))
  ·simp at h8;refine⟨⟨by omega,.inr fun r hr=>by obtain⟨_,_,rfl⟩:=List.mem_map.1 hr;rfl⟩,?_⟩;rw[T1_ (by rw[al_];exact Nat.le_refl _),show(an_ w).drop k=an_ (w.drop k) by simp[an_,List.map_drop]];exact af_ _
  refine .ret ⟨.inr rfl,?_⟩
  exact Out.pl (by simp only[Tryz.results57];rfl) (by simp only[ag_,go_sem,seval]<;>(rfl))
def wu_ (l:List Sg) (k:Nat):Str:=((l.take k).map fun x=>wz_ x.1 x.2.1++[10]).flatten
theorem us_ {l:List Sg} {k:Nat} (h:k<l.length):wu_ l (k+1)=wu_ l k++(wz_ (l.getD k G0).1 (l.getD k G0).2.1++[10]):=by
 unfold wu_
 rw[List.take_add_one,T6_ h,T8_,T6_ h,List.map_append,List.flatten_append]
 simp
theorem ok_ {a b:Int} (ha:smI a) (hb:smI b):(wz_ a b).length≤2000005:=by
 have:=gt_ ha
 have:=gt_ hb
 unfold wz_;simp only[T2_,T7_];omega
def smS (x:Sg):Prop:=smI x.1∧smI x.2.1∧smI x.2.2.1∧smI x.2.2.2
theorem ani_ {l:List Sg} (h:hu_ l=true) {x:Sg} (hx:x∈l):smS x:=by
 obtain⟨k,hk,rfl⟩:=List.getElem_of_mem hx
 have:=le_ h hk
 rw[T8_,T6_ hk]at this
 simp only[Option.getD_some]at this
 unfold smS smI;omega
theorem mx_ {l:List Sg} (h:∀x∈l,smS x):∀k,k≤l.length→(wu_ l k).length≤2000006 * k
 |0,_=>by simp[wu_]
 |k+1,hk=>by
  have h1:=mx_ h k (by omega)
  have h2:=h _ (am_ (d:=G0) (show k<l.length by omega))
  have:=ok_ h2.1 h2.2.1
  rw[us_ (by omega),T2_,T2_]
  simp only[T7_,List.length_nil];omega
theorem fd_ (l:List Sg) (L c:Int):∀x∈dl_ l L c,smS x:=fun x hx=>by
 unfold dl_ at hx
 split at hx
 ·rename_i h;exact ani_ h (List.mem_filter.1 hx).1
 ·cases hx
theorem aax_ (l:List Sg) (L c:Int):(dl_ l L c).length≤l.length:=by
 unfold dl_
 split
 ·exact List.length_filter_le _ _
 ·simp
theorem acj_ {l:List Sg} {L c:Int} {x:Sg}:∀ {k:Nat},k≤l.length→lc_ l L c k=some x→x∈l
 |0,_,h=>by cases h
 |k+1,hk,h=>by
  rw[lc_]at h
  split at h
  ·cases h;exact am_ (by omega)
  ·exact acj_ (k:=k) (by omega) h
theorem mu_ (l:List Sg) (L c:Int):smI (lkL (g2_ l L c))∧smI (lkC (g2_ l L c)):=by
 unfold g2_
 split
 ·rename_i h
  cases e:o2_ l L c with
  |none=>simp[lkL,lkC,smI]
  |some x=>exact(ani_ h (acj_ (Nat.le_refl _) e)).2.2
 ·simp[lkL,lkC,smI]
theorem aa8_ {l:List Sg} {k:Nat} (h:k<l.length):(toR l).getD k []=[.i .i64 (l.getD k G0).1,.i .i64 (l.getD k G0).2.1]:=by
 simp[toR,T8_,T6_ h]
attribute [local go_sem] a6_ bl_ cg_ jh_ di_ in
theorem ahd_ (b:List Pg) (w:Str) (L c:Int) (hs:∀p∈b,pgB p) (hl:b.length≤2000000):ACall En 60 [.sl false (pgR b),.s w,.ag [.i .i64 L,.i .i64 c]] [] [.s (ib_ b w L c)] []:=by
 have h1:=kf_ b
 have h2:=aax_ (a9_ b) L c
 refine aa_ [] Tryz.func60 Tryz.ntmps60 fun C=>?_
 refine .seq (.rg [] ?_)
 refine .seq (.seq (.rg [] ?_))
 refine .cB (fun h13=>?_) (fun h13=>?_)
 ·refine .seq (.rgD [ab_ (l1_ b hs hl),ab_ (agj_ (a9_ b) L c (by omega))] ?_)
  refine .seq (.seq (.rg [] ?_))
  refine .cB (fun h22=>?_) (fun h22=>?_)
  ·refine .seq (.rg [] ?_)
   refine .ret ⟨.inr rfl,?_⟩
   exact Out.pl (by simp only[Tryz.results60];rfl) (by simp only[ag_,go_sem,seval]<;>(simp only[Bool.not_eq_true',Option.isSome_eq_false_iff,Option.isNone_iff_eq_none]at h22;unfold ib_;rw[if_pos (by simpa using h13),h22]))
  ·refine .skip (.seq (.rg [ab_ (ab2_ (lkL (g2_ (a9_ b) L c)) (lkC (g2_ (a9_ b) L c)) (mu_ _ _ _).1 (mu_ _ _ _).2)] ?_))
   refine .ret ⟨.inr rfl,?_⟩
   exact Out.pl (by simp only[Tryz.results60];rfl) (by simp only[ag_,go_sem,seval]<;>(have e:=h22;simp only[Bool.not_eq_false']at e;obtain⟨x,hx⟩:=Option.isSome_iff_exists.1 e;unfold ib_;rw[if_pos (by simpa using h13),hx];rfl))
 ·refine .skip (.seq (.rgD [ab_ (l1_ b hs hl),ab_ (agk_ (a9_ b) L c (by omega))] ?_))
  refine .seq (.rg [] ?_)
  refine .seq (.seq (.rg [] ?_))
  refine .block (.loopK (fun k:Nat=>⟨[.no,.no,.no,.no,.no,.no,.no,.no,.no,.sl false (toR (dl_ (a9_ b) L c)),.s (wu_ (dl_ (a9_ b) L c) k),.i .i64 k,.no,.no,.no,.no,.no,.no,.no,.no,.no,.no,.no,.no,.no,.no,.no,.no,.no,.no,.no,.no,.no,.no,.no,.no,.no,.no,.no,.no,.no,.no,.no,.no],ak_ [],us []⟩) (fun k:Nat=>k≤(dl_ (a9_ b) L c).length) (fun k:Nat=>(dl_ (a9_ b) L c).length - k) (0) ?_ ?_ (fun k hI=>?_))
  ·exact Nat.zero_le _
  ·refine Can.wh ?_;first|trivial|(rfl)
  refine .seq (.seq (.rg [] ?_))
  refine .cB (fun h32=>?_) (fun h32=>?_)
  ·refine .skip (.seq (.block (.rgo [a4_ (k<(dl_ (a9_ b) L c).length) (fun h=>ab2_ ((dl_ (a9_ b) L c).getD k G0).1 ((dl_ (a9_ b) L c).getD k G0).2.1 (fd_ _ _ _ _ (am_ h)).1 (fd_ _ _ _ _ (am_ h)).2.1)] ?_ ?_ (h:=by simp only[go_sem,seval,aa8_ (show k<(dl_ (a9_ b) L c).length by simpa using h32)];rfl))))
   ·simp at h32;have:=mx_ (fd_ (a9_ b) L c) k (by omega);have:=ok_ (fd_ _ _ _ _ (am_ (d:=G0) h32)).1 (fd_ _ _ _ _ (am_ (d:=G0) h32)).2.1;simp only[T2_,T7_,List.length_nil];omega
   refine .rg [] ?_
   refine Exists.intro (k+1) ⟨?_,?_,?_⟩
   ·simp at h32;omega
   ·simp at h32;omega
   refine Can.wh ?_;first|trivial|(simp at h32;rw[us_ h32,aj_ (by omega) (by omega)];exact⟨rfl,rfl⟩)
  ·refine .exit (.seq (.rgo [] ?_ ?_))
   ·have:=mx_ (fd_ (a9_ b) L c) k hI;omega
   refine .ret ⟨.inr rfl,?_⟩
   exact Out.pl (by simp only[Tryz.results60];rfl) (by simp only[ag_,go_sem,seval]<;>(simp only[T4_]at h32;unfold ib_;rw[if_neg (by simpa using h13)];unfold wu_;rw[T1_ (by omega)]))
attribute [local go_sem] a6_ dx_ ao_ in
theorem amj_ (b:List Pg) (w:Str) (hs:∀p∈b,pgB p) (hl:b.length≤2000000):ACall En 69 [.sl false (pgR b),.s w] [] [.s (yh_ b w)] []:=by
 have h1:=mv_ b
 have sm:oh_ (prL (bo_ b))=true:=by unfold prL;split;exact jo_ _;rfl
 have hn:(prL (bo_ b)).length≤1000000:=by
  unfold prL;split
  ·have:=e1_ (bo_ b);simp;omega
  ·simp
 have h3:=q9_ (prL (bo_ b))
 have h4:=u7_ (prL (bo_ b))
 have h5:=gt_ h4
 refine aa_ [] Tryz.func69 Tryz.ntmps69 fun C=>?_
 refine .seq (.rgo [] ?_ ?_)
 ·(first|trivial|(simp;done)|omega|(simp;omega))
 refine .seq (.rgo [ab_ (r8_ b hs hl),ab_ (ad0_ (bo_ b) (by omega))] ?_ ?_)
 ·(first|trivial|(simp;done)|omega|(simp;omega))
 refine .seq (.seq (.rgo [] ?_ ?_))
 ·(first|trivial|(simp;done)|omega|(simp;omega))
 refine .cB (fun h14=>?_) (fun h14=>?_)
 ·refine .seq (.rgo [] ?_ ?_)
  ·(first|trivial|(simp;done)|omega|(simp;omega))
  refine .ret ⟨.inr rfl,?_⟩
  exact Out.pl (by simp only[Tryz.results69];rfl) (by simp only[ag_,go_sem,seval]<;>(simp only[Bool.not_eq_true']at h14;unfold yh_;rw[h14];rfl))
 ·refine .skip (.seq (.seq (.rgo [] ?_ ?_)))
  ·(first|trivial|(simp;done)|omega|(simp;omega))
  refine .cB (fun h16=>?_) (fun h16=>?_)
  ·refine .seq (.rgo [ab_ (afc_ (prL (bo_ b)) sm (by omega)),ab_ (kp_ (gy_ (prL (bo_ b))) (by unfold smI at h4;omega) (by unfold smI at h4;omega))] ?_ ?_)
   ·(first|trivial|(simp;done)|omega|(simp;omega))
   refine .ret ⟨.inr rfl,?_⟩
   exact Out.pl (by simp only[Tryz.results69];rfl) (by simp only[ag_,go_sem,seval]<;>(simp only[Bool.not_eq_false']at h14;unfold yh_;rw[h14,if_pos rfl,if_pos (by simpa using h16)];simp[js_]))
  ·refine .skip (.seq (.rgo [ab_ (afm_ (prL (bo_ b)) sm (by omega)),ab_ (aby_ (hf_ (prL (bo_ b))).1 (hf_ (prL (bo_ b))).2 (aad_ _) (by omega))] ?_ ?_))
   ·(first|trivial|(simp;done)|omega|(simp;omega))
   refine .ret ⟨.inr rfl,?_⟩
   exact Out.pl (by simp only[Tryz.results69];rfl) (by simp only[ag_,go_sem,seval]<;>(simp only[Bool.not_eq_false']at h14;unfold yh_;rw[h14,if_pos rfl,if_neg (by simpa using h16)]))
end
section
set_option maxRecDepth 100000
set_option maxHeartbeats 8000000
theorem am2_ {w:List Str} (h:ex_ w=true):bd_ (w.getD 1 [])=true:=by unfold ex_ at h;simp only[T5_]at h;exact h.2
theorem aj5_ {w:List Str} (h:ex_ w=true):1<w.length:=by unfold ex_ at h;simp only[T5_,T3_]at h;exact h.1
theorem af6_ {w:List Str} (h:1<w.length):ex_ w=bd_ (w.getD 1 []):=by unfold ex_;rw[decide_eq_true h,Bool.true_and]
theorem abo_ {w:List Str} (h:1<w.length):nums [w.getD 1 []]=nd_ w:=by
 unfold nd_;rw[af6_ h];simp[nums]
theorem avv_ {w:List Str} (h:1<w.length):((an_ w).take 2).drop 1=an_ [w.getD 1 []]:=by
 match w,h with
 |a::c::r,_=>rfl
attribute [local go_sem] a6_ bl_ al_ aq_ ao_ as_ in
theorem ak3_ (b:List Pg) (w:List Str) (hs:∀p∈b,pgB p) (hl:b.length≤2000000) (hw:j7_ w≤100000) (h0:0<w.length) (hk:ic_ (w.getD 0 [])):ACall En 32 [.sl false (pgR b),.sl false (an_ w)] [] [.sl false (pgR (b8_ b w).1),.s (b8_ b w).2] []:=by
 have h1:=gv_ w
 have h2:=fun k=>rl_ w k
 have hv:bd_ (w.getD 1 [])=true→av_ (w.getD 1 [])≤1000000:=fun h=>(by unfold bd_ at h;simp only[T5_,T3_]at h;exact h.1)
 refine aa_ [] Tryz.func32 Tryz.ntmps32 fun C=>?_
 refine .seq (.rgo [] ?_ ?_)
 ·(first|trivial|(simp;done)|(simp;omega))
 refine .seq (.rgo [] ?_ ?_)
 ·(first|trivial|(simp;done)|(simp;omega))
 refine .seq (.rgo [] ?_ ?_)
 ·(first|trivial|(simp;done)|(simp;omega))
 refine .seq (.rgo [] ?_ ?_)
 ·(first|trivial|(simp;done)|(simp;omega))
 refine .seqJ (fun u:Unit=>⟨[.sl false (pgR b),.sl false (an_ w),.no,.no,.no,.no,.sl false (pgR b),.b (ex_ w),.sl false (inR (nd_ w)),.no,.no,.no,.no,.no,.no,.no,.no,.no,.no,.no,.no,.no,.no,.no,.no,.no,.no,.no,.no,.no,.no,.no,.no,.no,.no,.no,.no,.no,.no,.no,.no,.no,.no,.no,.no,.no,.no,.no,.no,.no,.no,.no,.no,.no,.no,.no,.no,.no,.no,.no,.no,.no,.no,.no,.no,.no,.no,.no,.no,.no,.no,.no,.no,.no,.no,.no,.no,.no,.no,.no,.no,.no,.no,.no,.no],ak_ [],us []⟩) (fun u:Unit=>True) ?_ (fun u hJ=>?_)
 ·refine .seq (.rgo [] ?_ ?_)
  ·(first|trivial|(simp;done)|(simp;omega))
  refine .cB (fun h13=>?_) (fun h13=>?_)
  ·refine .rgo [a4_ (1<w.length) (fun h=>xi_ [w.getD 1 []] (by simp) (fun x hx=>by simp only[List.mem_singleton]at hx;subst hx;have:=w6_ w 1;omega))] ?_ ?_
   ·simp only[T3_]at h13;have h:1<w.length:=(by omega);refine⟨⟨by first|omega|(simp;omega),.inr fun r hr=>by obtain⟨_,_,rfl⟩:=List.mem_map.1 hr;rfl⟩,?_,h⟩;rw[avv_ h];exact af_ _
   refine Exists.intro (()) ⟨?_,?_⟩
   ·trivial
   refine Can.wh ?_;first|trivial|(first|(have h:1<w.length:=(by simp only[T3_]at h13;omega);rw[af6_ h,abo_ h];exact⟨rfl,af_ _⟩)|(have e:ex_ w=false:=(by unfold ex_;rw[decide_eq_false (by simp only[T4_]at h13;omega)];rfl);unfold nd_;rw[e];exact⟨rfl,by simp[inR,ler]⟩))
  ·refine .skip ?_
   refine Exists.intro (()) ⟨?_,?_⟩
   ·trivial
   refine Can.wh ?_;first|trivial|(first|(have h:1<w.length:=(by simp only[T3_]at h13;omega);rw[af6_ h,abo_ h];exact⟨rfl,af_ _⟩)|(have e:ex_ w=false:=(by unfold ex_;rw[decide_eq_false (by simp only[T4_]at h13;omega)];rfl);unfold nd_;rw[e];exact⟨rfl,by simp[inR,ler]⟩))
 refine .seqJ (fun p:List Pg × Bool=>⟨[.sl false (pgR b),.no,.no,.no,.no,.no,.sl false (pgR p.1),.b p.2,.no,.no,.no,.no,.no,.no,.no,.no,.no,.no,.no,.no,.no,.no,.no,.no,.no,.no,.no,.no,.no,.no,.no,.no,.no,.no,.no,.no,.no,.no,.no,.no,.no,.no,.no,.no,.no,.no,.no,.no,.no,.no,.no,.no,.no,.no,.no,.no,.no,.no,.no,.no,.no,.no,.no,.no,.no,.no,.no,.no,.no,.no,.no,.no,.no,.no,.no,.no,.no,.no,.no,.no,.no,.no,.no,.no,.no],ak_ [],us []⟩) (fun p:List Pg × Bool=>p=ld_ b w∧(w.getD 0 []=[97,100,100]∨ex_ w=true∧(w.getD 0 []=[112,117,116]∨w.getD 0 []=[105,110]∨w.length=2))) ?_ (fun p hJ=>?_)
 ·refine .block (.seq (.rgo [] ?_ ?_ (h:=by simp only[go_sem,seval,aw_ h0];rfl)))
  ·(first|trivial|(simp;done)|(simp;omega))
  refine .cB (fun h28=>?_) (fun h28=>?_)
  ·refine .rgo [ab_ (qm_ w 1 (by omega) (by decide)),ab_ (vv_ b b.length (ax_ (w.drop 1)) hs hl (by omega) (by omega) (by have:=h2 1;omega))] ?_ ?_
   ·(first|trivial|(simp;done)|(simp;omega))
   refine Exists.intro (ld_ b w) ⟨?_,?_⟩
   ·first|exact⟨rfl,.inl (by simpa using h28)⟩|exact⟨rfl,.inr ⟨by simpa using h42,.inl (by simpa using h46)⟩⟩|exact⟨rfl,.inr ⟨by simpa using h42,.inr (.inl (by simpa using h61))⟩⟩|exact⟨rfl,.inr ⟨by simpa using h42,.inr (.inr (by have:=aj5_ (show ex_ w=true by simpa using h42);simp at h76;omega))⟩⟩
   refine Can.wh ?_;first|trivial|(unfold ld_;first|(rw[if_pos (by simpa using h28)];exact⟨af_ _,rfl⟩)|(rw[if_neg (by simpa using h28),if_pos (by simpa using h46)];exact⟨af_ _,rfl⟩)|(rw[if_neg (by simpa using h28),if_neg (by simpa using h46),if_pos (by simpa using h61)];exact⟨af_ _,rfl⟩)|(rw[if_neg (by simpa using h28),if_neg (by simpa using h46),if_neg (by simpa using h61)];exact⟨af_ _,rfl⟩))
  ·refine .seq (.rgo [] ?_ ?_)
   ·(first|trivial|(simp;done)|(simp;omega))
   refine .cB (fun h42=>?_) (fun h42=>?_)
   ·refine .seq (.rgo [] ?_ ?_)
    ·(first|trivial|(simp;done)|(simp;omega))
    refine .ret ⟨.inr rfl,?_⟩
    exact Out.plL (by simp only[Tryz.results32];rfl) (by simp only[ag_,go_sem,seval]<;>(rw[w7_ h0 hk (by simpa using h28) (.inl (by simpa using h42))];exact⟨af_ _,rfl⟩))
   ·refine .seq (.rgo [] ?_ ?_ (h:=by simp only[go_sem,seval,aw_ h0];rfl))
    ·(first|trivial|(simp;done)|(simp;omega))
    refine .cB (fun h46=>?_) (fun h46=>?_)
    ·refine .rgDo [ab_ (qm_ w 2 (by omega) (by decide)),a4_ (bd_ (w.getD 1 [])=true) (fun h=>ady_ b (av_ (w.getD 1 [])) (ax_ (w.drop 2)) hs hl (by omega) (by have:=hv h;omega) (by have:=h2 2;omega))] ?_ ?_ (h:=by simp only[go_sem,seval,show nd_ w=[(av_ (w.getD 1 []):Int)]from wp_ (by simpa using h42),jc_,s6_];rfl)
     ·exact am2_ (by simpa using h42)
     refine Exists.intro (ld_ b w) ⟨?_,?_⟩
     ·first|exact⟨rfl,.inl (by simpa using h28)⟩|exact⟨rfl,.inr ⟨by simpa using h42,.inl (by simpa using h46)⟩⟩|exact⟨rfl,.inr ⟨by simpa using h42,.inr (.inl (by simpa using h61))⟩⟩|exact⟨rfl,.inr ⟨by simpa using h42,.inr (.inr (by have:=aj5_ (show ex_ w=true by simpa using h42);simp at h76;omega))⟩⟩
     refine Can.wh ?_;first|trivial|(unfold ld_;first|(rw[if_pos (by simpa using h28)];exact⟨af_ _,rfl⟩)|(rw[if_neg (by simpa using h28),if_pos (by simpa using h46)];exact⟨af_ _,rfl⟩)|(rw[if_neg (by simpa using h28),if_neg (by simpa using h46),if_pos (by simpa using h61)];exact⟨af_ _,rfl⟩)|(rw[if_neg (by simpa using h28),if_neg (by simpa using h46),if_neg (by simpa using h61)];exact⟨af_ _,rfl⟩))
    ·refine .seq (.rgo [] ?_ ?_ (h:=by simp only[go_sem,seval,aw_ h0];rfl))
     ·(first|trivial|(simp;done)|(simp;omega))
     refine .cB (fun h61=>?_) (fun h61=>?_)
     ·refine .rgDo [ab_ (qm_ w 2 (by omega) (by decide)),a4_ (bd_ (w.getD 1 [])=true) (fun h=>vv_ b (av_ (w.getD 1 [])) (ax_ (w.drop 2)) hs hl (by omega) (by have:=hv h;omega) (by have:=h2 2;omega))] ?_ ?_ (h:=by simp only[go_sem,seval,show nd_ w=[(av_ (w.getD 1 []):Int)]from wp_ (by simpa using h42),jc_,s6_];rfl)
      ·exact am2_ (by simpa using h42)
      refine Exists.intro (ld_ b w) ⟨?_,?_⟩
      ·first|exact⟨rfl,.inl (by simpa using h28)⟩|exact⟨rfl,.inr ⟨by simpa using h42,.inl (by simpa using h46)⟩⟩|exact⟨rfl,.inr ⟨by simpa using h42,.inr (.inl (by simpa using h61))⟩⟩|exact⟨rfl,.inr ⟨by simpa using h42,.inr (.inr (by have:=aj5_ (show ex_ w=true by simpa using h42);simp at h76;omega))⟩⟩
      refine Can.wh ?_;first|trivial|(unfold ld_;first|(rw[if_pos (by simpa using h28)];exact⟨af_ _,rfl⟩)|(rw[if_neg (by simpa using h28),if_pos (by simpa using h46)];exact⟨af_ _,rfl⟩)|(rw[if_neg (by simpa using h28),if_neg (by simpa using h46),if_pos (by simpa using h61)];exact⟨af_ _,rfl⟩)|(rw[if_neg (by simpa using h28),if_neg (by simpa using h46),if_neg (by simpa using h61)];exact⟨af_ _,rfl⟩))
     ·refine .seq (.rgo [] ?_ ?_)
      ·(first|trivial|(simp;done)|(simp;omega))
      refine .cB (fun h76=>?_) (fun h76=>?_)
      ·refine .seq (.rgo [] ?_ ?_)
       ·(first|trivial|(simp;done)|(simp;omega))
       refine .ret ⟨.inr rfl,?_⟩
       exact Out.plL (by simp only[Tryz.results32];rfl) (by simp only[ag_,go_sem,seval]<;>(rw[w7_ h0 hk (by simpa using h28) (.inr ⟨((hk.resolve_left (by simpa using h28)).resolve_left (by simpa using h46)).resolve_left (by simpa using h61),by simp at h76;omega⟩)];exact⟨af_ _,rfl⟩))
      ·refine .rgo [a4_ (bd_ (w.getD 1 [])=true) (fun h=>adk_ b (av_ (w.getD 1 [])) hs hl (by omega) (by have:=hv h;omega))] ?_ ?_ (h:=by simp only[go_sem,seval,show nd_ w=[(av_ (w.getD 1 []):Int)]from wp_ (by simpa using h42),jc_,s6_];rfl)
       ·exact am2_ (by simpa using h42)
       refine Exists.intro (ld_ b w) ⟨?_,?_⟩
       ·first|exact⟨rfl,.inl (by simpa using h28)⟩|exact⟨rfl,.inr ⟨by simpa using h42,.inl (by simpa using h46)⟩⟩|exact⟨rfl,.inr ⟨by simpa using h42,.inr (.inl (by simpa using h61))⟩⟩|exact⟨rfl,.inr ⟨by simpa using h42,.inr (.inr (by have:=aj5_ (show ex_ w=true by simpa using h42);simp at h76;omega))⟩⟩
       refine Can.wh ?_;first|trivial|(unfold ld_;first|(rw[if_pos (by simpa using h28)];exact⟨af_ _,rfl⟩)|(rw[if_neg (by simpa using h28),if_pos (by simpa using h46)];exact⟨af_ _,rfl⟩)|(rw[if_neg (by simpa using h28),if_neg (by simpa using h46),if_pos (by simpa using h61)];exact⟨af_ _,rfl⟩)|(rw[if_neg (by simpa using h28),if_neg (by simpa using h46),if_neg (by simpa using h61)];exact⟨af_ _,rfl⟩))
 refine .seq (.seq (.rgo [] ?_ ?_))
 ·(first|trivial|(simp;done)|(simp;omega))
 refine .cB (fun h82=>?_) (fun h82=>?_)
 ·refine .seq (.rgo [] ?_ ?_)
  ·(first|trivial|(simp;done)|(simp;omega))
  refine .ret ⟨.inr rfl,?_⟩
  exact Out.plL (by simp only[Tryz.results32];rfl) (by simp only[ag_,go_sem,seval]<;>(simp only[Bool.not_eq_true']at h82;rw[yy_ hk hJ.2,←hJ.1];unfold hw_;rw[h82];exact⟨af_ _,rfl⟩))
 ·refine .skip (.seq (.rgo [] ?_ ?_))
  ·(first|trivial|(simp;done)|(simp;omega))
  refine .ret ⟨.inr rfl,?_⟩
  exact Out.plL (by simp only[Tryz.results32];rfl) (by simp only[ag_,go_sem,seval]<;>(simp only[Bool.not_eq_false']at h82;rw[yy_ hk hJ.2,←hJ.1];unfold hw_;rw[if_pos h82];exact⟨af_ _,rfl⟩))
theorem xu_ {w:List Str} (h:((w.drop 1).all bd_&&((nums (w.drop 1)).length:Int)==2&&(w.getD 0 []==[108,111,111,107]||w.getD 0 []==[98,97,99,107]))=true):ov_ w∧nums (w.drop 1)=[(av_ (w.getD 1 []):Int),(av_ (w.getD 2 []):Int)]:=by
 simp only[T5_,Bool.or_eq_true,beq_iff_eq]at h
 obtain⟨⟨h1,h2⟩,h3⟩:=h
 have e:nums (w.drop 1)=(w.drop 1).map fun w=>(av_ w:Int):=by unfold nums;rw[if_pos h1]
 rw[e,List.length_map,List.length_drop]at h2
 match w,h2,h1,h3,e with
 |[a,c,d],_,h1,h3,e=> 
  simp only[List.drop_succ_cons,List.drop_zero,List.all_cons,List.all_nil,Bool.and_true,T5_]at h1
  exact⟨⟨rfl,h1.1,h1.2,h3⟩,e⟩
theorem jx_ {w:List Str} (h:((w.drop 1).all bd_&&((nums (w.drop 1)).length:Int)==2&&(w.getD 0 []==[108,111,111,107]||w.getD 0 []==[98,97,99,107]))=false):¬ov_ w:=fun⟨h1,h2,h3,h4⟩=>by
 match w,h1,h2,h3,h4,h with
 |[a,c,d],_,h2,h3,h4,h=>
  have q:[c,d].all bd_=true:=by
   simp only[List.all_cons,List.all_nil,Bool.and_true,T5_];exact⟨h2,h3⟩
  have e:nums [c,d]=[(av_ c:Int),(av_ d:Int)]:=by unfold nums;rw[if_pos q];rfl
  simp only[List.drop_succ_cons,List.drop_zero,q,e]at h
  rcases h4 with h4|h4<;>simp only[List.getD_cons_zero]at h4 h<;>rw[h4]at h<;>simp at h
theorem alk_ {b:List Pg} {w:Str} (h:w=[116,121,112,101]∨w=[114,117,110]):yh_ b w=if prR (bo_ b)then(if w=[114,117,110]then st_ (hf_ (prL (bo_ b)))else js_ [gy_ (prL (bo_ b))])else [98,97,100,10]:=by
 unfold yh_
 rcases h with rfl|rfl<;>split<;>rfl
attribute [local go_sem] a6_ bl_ al_ aq_ ao_ as_ cg_ in
theorem aql_ (b:List Pg) (w:List Str) (hs:∀p∈b,pgB p) (hl:b.length≤2000000) (hw:j7_ w≤100000) (h0:0<w.length) (hk:¬ic_ (w.getD 0 [])):ACall En 33 [.sl false (pgR b),.sl false (an_ w)] [] [.s (b8_ b w).2] []:=by
 have h1:=gv_ w
 have n1:(nums (w.drop 1)).length≤100000:=by unfold nums;split;(rw[List.length_map,List.length_drop];omega);simp
 have hX:decide (((nums (w.drop 1)).length:Int)=2)=decide ((nums (w.drop 1)).length=2):=decide_eq_decide.2 (by omega)
 have t1:=mv_ b
 have t2:=rj_ b
 have t3:=wk_ b
 have t4:=kf_ b
 have t5:=gm_ (lx_ b)
 have t6:=aam_ (a9_ b)
 have t7:=q6_ (e0_ b)
 refine aa_ [] Tryz.func33 Tryz.ntmps33 fun C=>?_
 refine .seq (.rgo [] ?_ ?_)
 ·(first|trivial|(simp;done)|omega|(simp;omega))
 refine .seq (.rgo [ab_ (xi_ (w.drop 1) (by rw[List.length_drop];omega) (fun x hx=>by have:=lq_ (List.mem_of_mem_drop hx);omega))] ?_ ?_)
 ·refine⟨⟨by omega,.inr fun r hr=>by obtain⟨_,_,rfl⟩:=List.mem_map.1 hr;rfl⟩,?_⟩;rw[T1_ (by rw[al_];exact Nat.le_refl _),show(an_ w).drop 1=an_ (w.drop 1) by simp[an_,List.map_drop]];exact af_ _
 refine .seq (.block (.seq (.rgo [] ?_ ?_ (h:=by simp only[go_sem,seval,aw_ h0];rfl))))
 ·exact⟨⟨fun h=>⟨h,by omega⟩,fun h=>⟨h,by omega⟩⟩,fun h=>⟨h,fun h2=>by rw[h,h2];rfl⟩⟩
 refine .cB (fun h13=>?_) (fun h13=>?_)
 ·refine .seq (.rgDo [ab_ (ahd_ b (w.getD 0 []) (av_ (w.getD 1 [])) (av_ (w.getD 2 [])) hs hl)] ?_ ?_ (h:=by simp only[go_sem,seval,aw_ h0,show nums (w.drop 1)=[(av_ (w.getD 1 []):Int),(av_ (w.getD 2 []):Int)]from(xu_ h13).2,jc_,s6_];rfl))
  ·exact⟨by omega,by decide⟩
  refine .ret ⟨.inr rfl,?_⟩
  exact Out.pl (by simp only[Tryz.results33];rfl) (by simp only[ag_,go_sem,seval]<;>(rw[vc_ (xu_ h13).1]))
 ·refine .seq (.rgo [] ?_ ?_)
  ·(first|trivial|(simp;done)|omega|(simp;omega))
  refine .cB (fun h44=>?_) (fun h44=>?_)
  ·refine .seq (.rgo [] ?_ ?_)
   ·(first|trivial|(simp;done)|omega|(simp;omega))
   refine .ret ⟨.inr rfl,?_⟩
   exact Out.pl (by simp only[Tryz.results33];rfl) (by simp only[ag_,go_sem,seval]<;>(rw[gl_ hk (jx_ h13),if_neg (by simp at h44;omega)];rfl))
  ·refine .seq (.rgo [] ?_ ?_ (h:=by simp only[go_sem,seval,aw_ h0];rfl))
   ·(first|trivial|(simp;done)|omega|(simp;omega))
   refine .cB (fun h48=>?_) (fun h48=>?_)
   ·refine .seq (.rgo [ab_ (r8_ b hs hl)] ?_ ?_)
    ·(first|trivial|(simp;done)|omega|(simp;omega))
    refine .ret ⟨.inr rfl,?_⟩
    exact Out.pl (by simp only[Tryz.results33];rfl) (by simp only[ag_,go_sem,seval]<;>(rw[gl_ hk (jx_ h13),if_pos (by simp at h44;omega)];unfold fg_;rw[if_pos (by simpa using h48)]))
   ·refine .seq (.rgo [] ?_ ?_ (h:=by simp only[go_sem,seval,aw_ h0];rfl))
    ·(first|trivial|(simp;done)|omega|(simp;omega))
    refine .cB (fun h56=>?_) (fun h56=>?_)
    ·refine .seq (.rgo [ab_ (sk_ b hs hl)] ?_ ?_)
     ·(first|trivial|(simp;done)|omega|(simp;omega))
     refine .ret ⟨.inr rfl,?_⟩
     exact Out.pl (by simp only[Tryz.results33];rfl) (by simp only[ag_,go_sem,seval]<;>(rw[gl_ hk (jx_ h13),if_pos (by simp at h44;omega)];unfold fg_;rw[if_neg (by simpa using h48),if_pos (by simpa using h56)]))
    ·refine .seq (.rgo [] ?_ ?_ (h:=by simp only[go_sem,seval,aw_ h0];rfl))
     ·(first|trivial|(simp;done)|omega|(simp;omega))
     refine .cB (fun h64=>?_) (fun h64=>?_)
     ·refine .seq (.rgo [ab_ (l1_ b hs hl),ab_ (ag5_ (a9_ b) (by omega))] ?_ ?_)
      ·(first|trivial|(simp;done)|omega|(simp;omega))
      refine .ret ⟨.inr rfl,?_⟩
      exact Out.pl (by simp only[Tryz.results33];rfl) (by simp only[ag_,go_sem,seval]<;>(rw[gl_ hk (jx_ h13),if_pos (by simp at h44;omega)];unfold fg_;rw[if_neg (by simpa using h48),if_neg (by simpa using h56),if_pos (by simpa using h64)]))
     ·refine .seq (.rgo [] ?_ ?_ (h:=by simp only[go_sem,seval,aw_ h0];rfl))
      ·(first|trivial|(simp;done)|omega|(simp;omega))
      refine .cB (fun h73=>?_) (fun h73=>?_)
      ·refine .seq (.rgo [ab_ (agn_ b hs hl),ab_ (rm_ (ks_ b) (lx_ b) (by omega))] ?_ ?_)
       ·(first|trivial|(simp;done)|omega|(simp;omega))
       refine .ret ⟨.inr rfl,?_⟩
       exact Out.pl (by simp only[Tryz.results33];rfl) (by simp only[ag_,go_sem,seval]<;>(rw[gl_ hk (jx_ h13),if_pos (by simp at h44;omega)];unfold fg_;rw[if_neg (by simpa using h48),if_neg (by simpa using h56),if_neg (by simpa using h64),if_pos (by simpa using h73)]))
      ·refine .seq (.rgo [] ?_ ?_ (h:=by simp only[go_sem,seval,aw_ h0];rfl))
       ·(first|trivial|(simp;done)|omega|(simp;omega))
       refine .cB (fun h82=>?_) (fun h82=>?_)
       ·refine .seq (.rgo [ab_ (sk_ b hs hl),ab_ (afh_ (e0_ b) (by omega)),ab_ (aby_ (i7_ (e0_ b)).1 (i7_ (e0_ b)).2 (zw_ _) (by omega))] ?_ ?_)
        ·(first|trivial|(simp;done)|omega|(simp;omega))
        refine .ret ⟨.inr rfl,?_⟩
        exact Out.pl (by simp only[Tryz.results33];rfl) (by simp only[ag_,go_sem,seval]<;>(rw[gl_ hk (jx_ h13),if_pos (by simp at h44;omega)];unfold fg_;rw[if_neg (by simpa using h48),if_neg (by simpa using h56),if_neg (by simpa using h64),if_neg (by simpa using h73),if_pos (by simpa using h82)]))
       ·refine .seq (.rgo [] ?_ ?_ (h:=by simp only[go_sem,seval,aw_ h0];rfl))
        ·exact⟨⟨by omega,fun h=>⟨h,by omega⟩⟩,fun h=>by rw[h];rfl⟩
        refine .cB (fun h93=>?_) (fun h93=>?_)
        ·refine .seq (.rgo [ab_ (amj_ b (w.getD 0 []) hs hl)] ?_ ?_ (h:=by simp only[go_sem,seval,aw_ h0];rfl))
         ·(first|trivial|(simp;done)|omega|(simp;omega))
         refine .ret ⟨.inr rfl,?_⟩
         exact Out.pl (by simp only[Tryz.results33];rfl) (by simp only[ag_,go_sem,seval]<;>(rw[gl_ hk (jx_ h13),if_pos (by simp at h44;omega)];unfold fg_;rw[if_neg (by simpa using h48),if_neg (by simpa using h56),if_neg (by simpa using h64),if_neg (by simpa using h73),if_neg (by simpa using h82),if_pos (by simpa using h93),alk_ (by simpa using h93)]))
        ·refine .skip (.seq (.rgo [] ?_ ?_))
         ·(first|trivial|(simp;done)|omega|(simp;omega))
         refine .ret ⟨.inr rfl,?_⟩
         exact Out.pl (by simp only[Tryz.results33];rfl) (by simp only[ag_,go_sem,seval]<;>(rw[gl_ hk (jx_ h13),if_pos (by simp at h44;omega)];unfold fg_;rw[if_neg (by simpa using h48),if_neg (by simpa using h56),if_neg (by simpa using h64),if_neg (by simpa using h73),if_neg (by simpa using h82),if_neg (by simpa using h93)]))
end
section
set_option maxRecDepth 100000
theorem pf_ {b:List Pg} (h:bq_ b=true):(∀p∈b,pgB p)∧b.length≤16:=by
 refine⟨fun p hp=>?_,(cc_ h).2.1⟩
 obtain⟨h1,h2⟩:=l8_ (ix_ h p hp)
 rw[h2]
 exact zo_ (by have:=(m2_ h1).2;omega)
theorem adx_ {b x:List Pg} {ok:Bool} (hb:bq_ b=true) (hx:ok=true→bq_ x=true):bq_ (hw_ b x ok).1=true:=by
 unfold hw_;cases ok with
 |true=>exact hx rfl
 |false=>exact hb
theorem amp_ {b:List Pg} (w:List Str) (hb:bq_ b=true):bq_ (b8_ b w).1=true:=by
 unfold b8_
 repeat(split;first|exact adx_ hb aoe_|exact hb|skip)
 all_goals first|exact adx_ hb aoe_|exact hb
theorem ai3_ {r:List Int × Bool} (h:smL r.1) (hl:r.1.length≤100):(st_ r).length≤200000000:=by
 have:=gm_ h
 unfold st_
 rw[T2_]
 split<;>simp only[T7_,List.length_nil]<;>omega
theorem ank_ (b:List Pg) (w:Str):(fg_ b w).length≤10000000000:=by
 have t1:=mv_ b
 have t2:=rj_ b
 have t3:=wk_ b
 have t5:=gm_ (lx_ b)
 have t6:=aam_ (a9_ b)
 have t7:=ai3_ (zw_ (e0_ b)) (by have:=q6_ (e0_ b);omega)
 have t8:=ai3_ (aad_ (prL (bo_ b))) (by have:=q9_ (prL (bo_ b));omega)
 have t9:=gm_ (l:=[gy_ (prL (bo_ b))]) fun n hn=>by simp only[List.mem_singleton]at hn;subst hn;exact u7_ _
 unfold fg_
 repeat' split
 all_goals(simp only[T2_,T7_,List.length_nil]at *;omega)
theorem ade_:bq_ (jk_ [])=true:=at9_ (by decide)
def gk (L:List Str) (k:Nat):List Pg × Str × Bool:=goD (L.take k) 0 (jk_ []) []
theorem ahm_ {L:List Str} {k:Nat} (h:L.length≤k):gk L k=goD L 0 (jk_ []) []:=by unfold gk;rw[T1_ h]
theorem ag8_ {L:List Str} {k:Nat} (hk:k<L.length) (ho:(gk L k).2.2=true):gk L (k+1)=goD [L.getD k []] k (gk L k).1 (gk L k).2.1:=by
 have e:L.take (k+1)=L.take k++[L.getD k []]:=by
  rw[List.take_add_one,T6_ hk,T8_,T6_ hk];rfl
 unfold gk at ho ⊢
 rw[e,tk_,if_pos ho,List.length_take,Nat.zero_add,show min k L.length=k by omega]
theorem n6_ {L:List Str} {k:Nat} (hk:k<L.length) (ho:(gk L k).2.2=true) (hw:eu_ (L.getD k [])=[]):gk L (k+1)=gk L k:=by
 rw[ag8_ hk ho]
 simp only[goD]
 rw[if_pos hw,←ho]
theorem p5_ {L:List Str} {k:Nat} (hk:k<L.length) (ho:(gk L k).2.2=true) (hw:eu_ (L.getD k [])≠[]) (hf:¬(200≤k∨60000<(gk L k).2.1.length)) :
  gk L (k+1)=((b8_ (gk L k).1 (eu_ (L.getD k []))).1,(gk L k).2.1++(b8_ (gk L k).1 (eu_ (L.getD k []))).2,true):=by
 rw[ag8_ hk ho]
 simp only[goD]
 rw[if_neg hw,if_neg hf]
theorem aa0_ {L:List Str} {k:Nat} (hk:k<L.length) (ho:(gk L k).2.2=true) (hw:eu_ (L.getD k [])≠[]) (hf:200≤k∨60000<(gk L k).2.1.length):(goD L 0 (jk_ []) []).2.1=(gk L k).2.1++[102,117,108,108,10]:=by
 have h1:gk L (k+1)=((gk L k).1,(gk L k).2.1++[102,117,108,108,10],false):=by
  rw[ag8_ hk ho]
  simp only[goD]
  rw[if_neg hw,if_pos hf]
 have e:goD L 0 (jk_ []) []=gk L (k+1):=by
  conv=>lhs;rw[←List.take_append_drop (k+1) L]
  rw[tk_]
  show(if (gk L (k+1)).2.2 then _ else gk L (k+1))=_
  rw[h1];rfl
 rw[e,h1]
end
section
set_option maxRecDepth 100000
set_option maxHeartbeats 8000000
theorem ayx_ (w:Str):(w==[97,100,100]||w==[112,117,116]||w==[105,110]||w==[111,117,116])=decide (ic_ w):=by
 rw[Bool.eq_iff_iff];simp only[Bool.or_eq_true,beq_iff_eq,T3_,or_assoc];rfl
theorem aks_ {b:List Pg} {w:List Str} (hk:¬ic_ (w.getD 0 [])):(b8_ b w).1=b:=by
 by_cases h:ov_ w
 ·rw[vc_ h]
 ·rw[gl_ hk h]
attribute [local go_sem] a6_ bl_ al_ aq_ in
theorem akm_ (b:List Pg) (w:List Str) (hs:∀p∈b,pgB p) (hl:b.length≤2000000) (hw:j7_ w≤100000) (h0:0<w.length):ACall En 11 [.sl false (pgR b),.sl false (an_ w)] [] [.sl false (pgR (b8_ b w).1),.s (b8_ b w).2] []:=by
 have hb:=ayx_ (w.getD 0 [])
 refine aa_ [] Tryz.func11 Tryz.ntmps11 fun C=>?_
 refine .seq (.rg [] ?_ (h:=by simp only[go_sem,seval,hb];rfl))
 refine .seq (.seq (.rgo [] ?_ ?_ (h:=by simp only[go_sem,seval,hb,aw_ h0];rfl)))
 ·exact⟨⟨⟨⟨⟨⟨by omega,fun h=>⟨h,by omega⟩⟩,fun h=>by rw[h];rfl⟩,fun h=>⟨h,by omega⟩⟩,fun h=>by rw[h];rfl⟩,fun h=>⟨h,by omega⟩⟩,fun h=>by rw[h];rfl⟩
 refine .cB (fun h27=>?_) (fun h27=>?_) (hc:=by simp only[go_sem,seval,hb];rfl) (hp:=by simp only[go_sem,seval,hb])
 ·refine .seq (.rgo [a4_ (ic_ (w.getD 0 [])) (fun h=>ak3_ b w hs hl hw h0 h)] ?_ ?_ (h:=by simp only[go_sem,seval,hb];rfl))
  ·simpa using h27
  refine .ret ⟨.inr rfl,?_⟩
  exact Out.pl (by simp only[Tryz.results11];rfl) (by simp only[ag_,go_sem,seval,hb]<;>(rfl)) (h1:=by simp only[a8_,b4_,go_sem,seval,hb]<;>(split<;>rfl)) (h3:=by simp only[go_sem,seval,hb])
 ·refine .skip (.seq (.rgo [a4_ (¬ic_ (w.getD 0 [])) (fun h=>aql_ b w hs hl hw h0 h)] ?_ ?_ (h:=by simp only[go_sem,seval,hb];rfl)))
  ·simpa using h27
  refine .ret ⟨.inr rfl,?_⟩
  exact Out.pl (by simp only[Tryz.results11];rfl) (by simp only[ag_,go_sem,seval,hb]<;>(rw[aks_ (by simpa using h27)])) (h1:=by simp only[a8_,b4_,go_sem,seval,hb]<;>(split<;>rfl)) (h3:=by simp only[go_sem,seval,hb])
theorem amd_ (b:List Pg) (w:Str) (L c:Int):(ib_ b w L c).length≤10000000000:=by
 have h1:=kf_ b
 have h2:=aax_ (a9_ b) L c
 have h3:=mx_ (fd_ (a9_ b) L c) _ (Nat.le_refl _)
 have h4:=mu_ (a9_ b) L c
 have h5:=ok_ h4.1 h4.2
 unfold ib_
 split
 ·split
  ·rename_i x hx
   rw[hx]at h5
   simp only[lkL,lkC]at h5
   simp only[T2_,T7_,List.length_nil];omega
  ·decide
 ·unfold wu_ at h3
  rw[List.take_length]at h3
  rw[T2_];simp only[T7_,List.length_nil];omega
theorem wd_ (b:List Pg) (w:List Str):(b8_ b w).2.length≤10000000000:=by
 have h1:=ank_ b (w.getD 0 [])
 have h2:=amd_ b (w.getD 0 []) (av_ (w.getD 1 [])) (av_ (w.getD 2 []))
 have h3:∀x ok,(hw_ b x ok).2.length≤10000000000:=fun x ok=>by unfold hw_;split<;>simp
 unfold b8_
 have h4:isWhat.length≤10000000000:=by decide
 repeat(split;first|exact h3 _ _|exact h1|exact h2|exact h4|skip)
 all_goals first|exact h3 _ _|exact h1|exact h2|exact h4
theorem ne0 {l:List Str} (h:((l.length:Int)==0)=false):l≠[]:=by rintro rfl;simp at h
theorem eq0 {l:List Str} (h:((l.length:Int)==0)=true):l=[]:=by simpa using h
theorem lw_ {k n:Nat} (h:(decide ((k:Int) ≥ 200)||decide ((n:Int) > 60000))=false):¬(200≤k∨60000<n):=by
 simp only[Bool.or_eq_false_iff,T4_]at h;omega
theorem agc_ {k n:Nat} (h:(decide ((k:Int) ≥ 200)||decide ((n:Int) > 60000))=true):200≤k∨60000<n:=by
 simp only[Bool.or_eq_true,T3_]at h;omega
def DkI (s:Str) (l:List Str) (k:Nat):Prop:=k≤l.length∧s.length≤20000∧(gk l k).2.2=true∧bq_ (gk l k).1=true∧(gk l k).2.1.length≤10000060000
theorem DkI.skip {s:Str} {l:List Str} {k:Nat} (h:DkI s l k) (hk:k<l.length) (hw:eu_ (l.getD k [])=[]):DkI s l (k+1):=by
 unfold DkI;rw[n6_ hk h.2.2.1 hw];exact⟨hk,h.2⟩
theorem DkI.step {s:Str} {l:List Str} {k:Nat} (h:DkI s l k) (hk:k<l.length) (hw:eu_ (l.getD k [])≠[]) (hf:¬(200≤k∨60000<(gk l k).2.1.length)):DkI s l (k+1):=by
 have:=wd_ (gk l k).1 (eu_ (l.getD k []))
 unfold DkI;rw[p5_ hk h.2.2.1 hw hf]
 exact⟨hk,h.2.1,rfl,amp_ _ h.2.2.2.1,by rw[T2_];omega⟩
attribute [local go_sem] a6_ al_ aq_ in
theorem agp_ (s:Str) (hs:s.length≤281474976710656):ACall En 5 [.s s] [] [.s (air_ s)] []:=by
 have hc:s.length≤20000→(cp_ 10 s).length≤20001∧∀x∈cp_ 10 s,x.length≤20000:=fun h=>by
  have:=j5_ 10 s
  exact⟨by have:=gv_ (cp_ 10 s);omega,fun x hx=>by have:=lq_ hx;omega⟩
 have hd:air_ s=if 20000<s.length then [108,111,110,103,10]else(goD (cp_ 10 s) 0 (jk_ []) []).2.1:=rfl
 have C0:=fun h:s.length≤20000=>yo_ 10 s (by omega)
 generalize cp_ 10 s=l at *
 refine aa_ [] Tryz.func5 Tryz.ntmps5 fun C=>?_
 refine .seq (.rg [] ?_)
 refine .seq (.seq (.rg [] ?_))
 refine .cB (fun h11=>?_) (fun h11=>?_)
 ·refine .seq (.rg [] ?_)
  refine .ret ⟨.inr rfl,?_⟩
  exact Out.pl (by simp only[Tryz.results5];rfl) (by simp only[ag_,go_sem,seval]<;>(simp only[T3_]at h11;rw[hd,if_pos (by omega)]))
 ·refine .skip (.seq (.rg [ab_ (al6_ [] (by decide))] ?_))
  refine .seq (.rgo [a4_ (s.length≤20000) C0] ?_ ?_)
  ·simp only[T4_]at h11;omega
  refine .seq (.rg [] ?_)
  refine .seq (.seq (.rg [] ?_))
  refine .block (.loopK (fun k:Nat=>⟨[.no,.no,.no,.sl false (pgR (gk l k).1),.sl false (an_ l),.s (gk l k).2.1,.i .i64 k,.no,.no,.no,.no,.no,.no,.no,.no,.no,.no,.no,.no,.no,.no,.no,.no,.no,.no,.no,.no,.no,.no,.no,.no,.no,.no,.no,.no,.no,.no,.no,.no,.no,.no,.no,.no,.no,.no,.no,.no,.no],ak_ [],us []⟩) (fun k:Nat=>DkI s l k) (fun k:Nat=>l.length - k) (0) ?_ ?_ (fun k hI=>?_))
  ·simp only[T4_]at h11;exact⟨Nat.zero_le _,by omega,rfl,ade_,Nat.zero_le _⟩
  ·refine Can.wh ?_;first|trivial|(exact⟨af_ _,rfl⟩)
  refine .seq (.seq (.rg [] ?_))
  refine .cB (fun h18=>?_) (fun h18=>?_)
  ·refine .skip (.seqJ (fun u:Unit=>⟨[.no,.no,.no,.sl false (pgR (gk l (k+1)).1),.sl false (an_ l),.s (gk l (k+1)).2.1,.i .i64 k,.no,.no,.no,.no,.no,.no,.no,.no,.no,.no,.no,.no,.no,.no,.no,.no,.no,.no,.no,.no,.no,.no,.no,.no,.no,.no,.no,.no,.no,.no,.no,.no,.no,.no,.no,.no,.no,.no,.no,.no,.no],ak_ [],us []⟩) (fun u:Unit=>DkI s l (k+1)) ?_ (fun u hJ=>?_))
   ·refine .block (.seq (.rgo [a4_ (k<l.length∧s.length≤20000) (fun h=>af4_ (l.getD k []) (by have:=(hc h.2).2 _ (am_ (d:=[]) h.1);omega))] ?_ ?_ (h:=by simp only[go_sem,seval,aw_ (show k<l.length by simpa using h18)];rfl)))
    ·simp at h18;exact⟨by omega,h18,hI.2.1⟩
    refine .seq (.seq (.rg [] ?_))
    refine .cB (fun h28=>?_) (fun h28=>?_)
    ·refine .exit ?_
     refine Exists.intro (()) ⟨?_,?_⟩
     ·first|exact hI.skip (by simpa using h18) (eq0 h28)|exact hI.step (by simpa using h18) (ne0 h28) (lw_ h35)
     refine Can.wh ?_;first|trivial|(first|(rw[n6_ (by simpa using h18) hI.2.2.1 (eq0 h28)];exact⟨af_ _,rfl⟩)|(rw[p5_ (by simpa using h18) hI.2.2.1 (ne0 h28) (lw_ h35)];exact⟨af_ _,rfl⟩))
    ·refine .skip (.seq (.seq (.rg [] ?_)))
     refine .cB (fun h35=>?_) (fun h35=>?_)
     ·refine .seq (.rgo [] ?_ ?_)
      ·have:=hI.2.2.2.2;omega
      refine .ret ⟨.inr rfl,?_⟩
      exact Out.pl (by simp only[Tryz.results5];rfl) (by simp only[ag_,go_sem,seval]<;>(simp only[T4_]at h11;rw[hd,if_neg (by omega),aa0_ (by simpa using h18) hI.2.2.1 (ne0 h28) (agc_ h35)]))
     ·refine .skip (.seq (.rg [] ?_))
      refine .seq (.rgo [a4_ (bq_ (gk l k).1=true∧eu_ (l.getD k [])≠[]∧k<l.length∧s.length≤20000) (fun h=>akm_ (gk l k).1 (eu_ (l.getD k [])) (pf_ h.1).1 (by have:=(pf_ h.1).2;omega) (by have:=x6_ (l.getD k []);have:=(hc h.2.2.2).2 _ (am_ (d:=[]) h.2.2.1);omega) (List.length_pos_iff.2 h.2.1))] ?_ ?_)
      ·exact⟨hI.2.2.2.1,ne0 h28,by simpa using h18,hI.2.1⟩
      refine .rgo [] ?_ ?_
      ·have:=hI.2.2.2.2;have:=wd_ (gk l k).1 (eu_ (l.getD k []));omega
      refine Exists.intro (()) ⟨?_,?_⟩
      ·first|exact hI.skip (by simpa using h18) (eq0 h28)|exact hI.step (by simpa using h18) (ne0 h28) (lw_ h35)
      refine Can.wh ?_;first|trivial|(first|(rw[n6_ (by simpa using h18) hI.2.2.1 (eq0 h28)];exact⟨af_ _,rfl⟩)|(rw[p5_ (by simpa using h18) hI.2.2.1 (ne0 h28) (lw_ h35)];exact⟨af_ _,rfl⟩))
   refine .rg [] ?_
   refine Exists.intro (k+1) ⟨?_,?_,?_⟩
   ·exact hJ
   ·simp at h18;omega
   refine Can.wh ?_;first|trivial|(have q:=hc hI.2.1;simp at h18;rw[aj_ (by omega) (by omega)];rfl)
  ·refine .exit (.seq (.rg [] ?_))
   refine .ret ⟨.inr rfl,?_⟩
   exact Out.pl (by simp only[Tryz.results5];rfl) (by simp only[ag_,go_sem,seval]<;>(simp only[T4_]at h11 h18;rw[hd,if_neg (by omega),←ahm_ (show l.length≤k by omega)]))
end
section
set_option maxRecDepth 100000
set_option maxHeartbeats 4000000
attribute [local go_sem] capO av3_ av1_ at_ bm_ in
theorem aw2_ (n:Nat) (h0:0<n) (h1:n≤100000):ACall En 214 [.sl true [],.i .i64 n] [] [.ow 0 4 0 0] [⟨67,4,[]⟩]:=by
 have hw:IntKind.i64.wrap ((n:Int) - 0)=n:=by rw[aj_ (by omega) (by omega)];omega
 have hw0:IntKind.i64.wrap (0:Int)=0:=by rw[aj_ (by omega) (by omega)]
 refine aa_ [32] Tryz.func214 Tryz.ntmps214 fun C=>?_
 refine .seq (.rg [] ?_ (h:=by simp only[go_sem,seval,hw,hw0];rfl))
 refine .seq (.seq (.rg [] ?_ (h:=by simp only[go_sem,seval,hw,hw0];rfl)))
 refine .cB (fun h6=>?_) (fun h6=>?_) (hc:=by simp only[go_sem,seval,hw,hw0];rfl) (hp:=by simp only[go_sem,seval,hw,hw0])
 ·simp at h6;omega
 ·refine .skip (.seq (.seq (.rgSo [10] [capO En] ?_ ?_ (h:=by simp only[go_sem,seval,hw,hw0];rfl))))
  ·exact⟨_,_,_,_,_,_,rfl,by simp only[go_sem,seval];rfl,rfl⟩
  refine .seq (.rg [] ?_ (h:=by simp only[go_sem,seval,hw,hw0];rfl))
  refine .cB (fun h16=>?_) (fun h16=>?_) (hc:=by simp only[go_sem,seval,hw,hw0];rfl) (hp:=by simp only[go_sem,seval,hw,hw0])
  ·refine .rgSo [19,20,22] [capO En,av3_ En,av1_ En 67 4 32 n] ?_ ?_ (h:=by simp only[go_sem,seval,hw,hw0];rfl)
   ·and_intros<;>first|exact⟨_,_,_,_,_,_,rfl,by simp only[go_sem,seval];rfl,rfl⟩|exact⟨_,_,_,_,_,_,_,rfl,by simp only[go_sem,seval];rfl,by decide,rfl,rfl⟩|exact⟨_,_,_,_,_,_,_,rfl,by simp only[go_sem,seval];rfl,by simp only[go_sem,seval];rfl,by decide,rfl,rfl,rfl,rfl,h0,by omega⟩|omega|(simp;done)
   refine .seq (.rg [] ?_ (h:=by simp only[go_sem,seval,hw,hw0];rfl))
   refine .ret ⟨.inr rfl,?_⟩
   exact Out.mm (by simp only[Tryz.results214];rfl) (by simp only[ag_,rns,rn,go_sem,seval,hw,hw0]) (by simp only[at_,go_sem,seval,hw,hw0]) (h1:=by simp only[a8_,b4_,go_sem,seval,hw,hw0]) (h6:=by simp only[go_sem,seval,hw,hw0]) (h7:=by simp only[bm_,go_sem,seval,hw,hw0])
  ·simp at h16;omega
end
section
set_option maxRecDepth 100000
set_option maxHeartbeats 4000000
theorem aha_ (s:Str) (hs:s.length≤281474976710656):ACall En 145 [.s s] [] [.b (!ez_ s)] []:=by
 refine aa_ [] Tryz.func145 Tryz.ntmps145 fun C=>?_
 refine .seq (.rg [] ?_)
 refine .seq (.rg [ab_ (vr_ s hs)] ?_)
 refine .ret ⟨.inr rfl,?_⟩
 exact Out.pl (by simp only[Tryz.results145];rfl) (by simp only[ag_,go_sem,seval]<;>(simp_all))
attribute [local go_sem] al_ aq_ in
theorem asi_ (l:List Str) (hs:∀s∈l,s.length≤281474976710656) (hl:l.length≤1000000):ACall En 37 [.sl false (an_ l),.fn (.func 145) [] []] [] [.i .i64 (nz_ (fun p=>!ez_ p) l)] []:=by
 refine aa_ [] Tryz.func37 Tryz.ntmps37 fun C=>?_
 refine .seq (.rgo [] ?_ ?_)
 ·(first|trivial|(simp;done)|(simp only[T3_]at h9;and_intros<;>omega))
 refine .seq (.seq (.rgo [] ?_ ?_))
 ·(first|trivial|(simp;done)|(simp only[T3_]at h9;and_intros<;>omega))
 refine .block (.loopK (fun k:Nat=>⟨[.sl false (an_ l),.fn (.func 145) [] [],.no,.no,.no,.no,.no,.i .i64 l.length,.i .i64 k,.no,.no,.no,.no,.no,.no,.no,.no,.no,.no],ak_ [],us []⟩) (fun k:Nat=>k≤l.length∧(l.take k).any (fun p=>!ez_ p)=false) (fun k:Nat=>l.length - k) (0) ?_ ?_ (fun k hI=>?_))
 ·simp
 ·refine Can.wh ?_;first|trivial|(simp)
 refine .seq (.rgo [] ?_ ?_)
 ·(first|trivial|(simp;done)|(simp only[T3_]at h9;and_intros<;>omega))
 refine .seq (.cB (fun h9=>?_) (fun h9=>?_))
 ·refine .skip (.seq (.block (.seq (.rgo [] ?_ ?_))))
  ·(first|trivial|(simp;done)|(simp only[T3_]at h9;and_intros<;>omega))
  refine .seq (.rgo [a4_ (k<l.length) (fun h=>aha_ (l.getD k []) (hs _ (am_ h)))] ?_ ?_ (h:=by simp only[go_sem,seval,aw_ (show k<l.length by simpa using h9)];rfl))
  ·(first|trivial|(simp;done)|(simp only[T3_]at h9;and_intros<;>omega))
  refine .cB (fun h16=>?_) (fun h16=>?_)
  ·refine .seq (.rgo [] ?_ ?_)
   ·(first|trivial|(simp;done)|(simp only[T3_]at h9;and_intros<;>omega))
   refine .ret ⟨.inr rfl,?_⟩
   exact Out.pl (by simp only[Tryz.results37];rfl) (by simp only[ag_,go_sem,seval]<;>(simp at h9;rw[o6_ (d:=[]) h9 hI.2 h16]))
  ·refine .skip (.rgo [] ?_ ?_)
   ·(first|trivial|(simp;done)|(simp only[T3_]at h9;and_intros<;>omega))
   refine Exists.intro (k+1) ⟨?_,?_,?_⟩
   ·simp at h9;refine⟨by omega,?_⟩;rw[i0_ (d:=[]) h9,hI.2,h16];rfl
   ·simp at h9;omega
   refine Can.wh ?_;first|trivial|(rw[aj_ (by omega) (by omega)];simp)
 ·refine .exit (.seq (.rgo [] ?_ ?_))
  ·(first|trivial|(simp;done)|(simp only[T3_]at h9;and_intros<;>omega))
  refine .ret ⟨.inr rfl,?_⟩
  exact Out.pl (by simp only[Tryz.results37];rfl) (by simp only[ag_,go_sem,seval]<;>(simp at h9;have h0:=hI.2;rw[T1_ h9]at h0;rw[it_ h0]))
attribute [local go_sem] aq_ in
theorem aqo_ (l:List Str) (hs:∀s∈l,s.length≤281474976710656) (hl:l.length≤1000000):ACall En 144 [.sl false (an_ l),.fn (.func 145) [] []] [] [.b (l.any fun p=>!ez_ p)] []:=by
 refine aa_ [] Tryz.func144 Tryz.ntmps144 fun C=>?_
 refine .seq (.rg [] ?_)
 refine .seq (.rg [ab_ (asi_ l hs hl)] ?_)
 refine .ret ⟨.inr rfl,?_⟩
 exact Out.pl (by simp only[Tryz.results144];rfl) (by simp only[ag_,go_sem,seval]<;>(rw[m6_]))
def plR (X:List (List Pg)):List (List V):=X.map fun l=>[.sl false (pgR l)]
theorem at7_ (X:List (List Pg)):(plR X).length=X.length:=by simp[plR]
theorem ac6_:∀X:List (List Pg),bh_ (plR X)=true
 |[]=>rfl
 |x::X=>by
  show bh_ ([.sl false (pgR x)]::plR X)=true
  simp only[bh_,bv_,V.pure,a6_,ac6_ X,Bool.and_true]
theorem ajl_ {X:List (List Pg)} {k:Nat} (h:k<X.length):(plR X).getD k []=[.sl false (pgR (X.getD k []))]:=by
 simp[plR,T8_,T6_ h]
def sy_ (X:List (List Pg)) (k:Nat):Nat:=((X.take k).map List.length).sum
theorem oa_ {X:List (List Pg)} {k:Nat} (h:k<X.length):sy_ X (k+1)=sy_ X k+(X.getD k []).length:=by
 unfold sy_
 rw[List.take_add_one,T6_ h,List.map_append,List.sum_append,T8_,T6_ h];simp
theorem acx_ {X:List (List Pg)} {k:Nat} (h:X.length≤k):sy_ X k=X.flatten.length:=by
 unfold sy_
 rw[T1_ h,List.length_flatten]
theorem aum_ {X:List (List Pg)} (k:Nat):sy_ X k≤X.flatten.length:=by
 have h:∀(a b:List (List Pg)),(a.map List.length).sum≤(a++b).flatten.length:=fun a b=>by
  rw[List.flatten_append,T2_,List.length_flatten (L:=a)];omega
 have:=h (X.take k) (X.drop k)
 rw[List.take_append_drop]at this
 exact this
theorem anx_ {X:List (List Pg)} {k:Nat} (h:k<X.length):(X.take (k+1)).flatten=(X.take k).flatten++X.getD k []:=by
 rw[List.take_add_one,T6_ h,List.flatten_append,T8_,T6_ h];simp
theorem arz_ {X:List (List Pg)} (k:Nat):(X.take k).flatten.length=sy_ X k:=by unfold sy_;rw[List.length_flatten]
attribute [local go_sem] at_ bm_ at7_ ac6_ bl_ a6_ in
theorem aow_ (X:List (List Pg)) (h0:0<X.flatten.length) (h1:X.flatten.length≤100000) (h2:X.length≤100):ACall En 147 [.sl false (plR X)] [] [.ow 0 4 0 X.flatten.length] [⟨67,4,pgR X.flatten⟩]:=by
 have hs:=fun k=>aum_ (X:=X) k
 have hr:∀r∈pgR X.flatten,r.length=4:=fun r hr=>by obtain⟨p,_,rfl⟩:=List.mem_map.1 hr;rfl
 have hr2:∀k,∀r∈pgR (X.getD k []),r.length=4:=fun k r hr=>by obtain⟨p,_,rfl⟩:=List.mem_map.1 hr;rfl
 refine aa_ [80] Tryz.func147 Tryz.ntmps147 fun C=>?_
 refine .seq (.rgo [] ?_ ?_)
 ·(first|trivial|(simp;done)|(simp only[T3_]at h12;and_intros<;>omega)|(simp only[T3_]at h28;and_intros<;>omega))
 refine .seq (.rgo [] ?_ ?_)
 ·(first|trivial|(simp;done)|(simp only[T3_]at h12;and_intros<;>omega)|(simp only[T3_]at h28;and_intros<;>omega))
 refine .seq (.seq (.rgo [] ?_ ?_))
 ·(first|trivial|(simp;done)|(simp only[T3_]at h12;and_intros<;>omega)|(simp only[T3_]at h28;and_intros<;>omega))
 refine .block (.loopK (fun k:Nat=>⟨[.sl false (plR X),.no,.no,.i .i64 (sy_ X k),.no,.no,.no,.no,.no,.sl false (plR X),.i .i64 X.length,.i .i64 k,.no,.no,.no,.no,.no,.no,.no,.no,.no,.no,.no,.no,.no,.no,.no,.no,.no,.no,.no,.no,.no,.no,.no,.no],ak_ [],us []⟩) (fun k:Nat=>k≤X.length) (fun k:Nat=>X.length - k) (0) ?_ ?_ (fun k hI=>?_))
 ·simp
 ·refine Can.wh ?_;first|trivial|((try simp[sy_]))
 refine .seq (.rgo [] ?_ ?_)
 ·(first|trivial|(simp;done)|(simp only[T3_]at h12;and_intros<;>omega)|(simp only[T3_]at h28;and_intros<;>omega))
 refine .seq (.cB (fun h12=>?_) (fun h12=>?_))
 ·refine .skip (.seq (.block (.seq (.rgo [] ?_ ?_ (h:=by simp only[go_sem,seval,ajl_ (show k<X.length by simpa using h12)];rfl)))))
  ·(first|trivial|(simp;done)|(simp only[T3_]at h12;and_intros<;>omega)|(simp only[T3_]at h28;and_intros<;>omega))
  refine .seq (.rgo [] ?_ ?_)
  ·(first|trivial|(simp;done)|(simp only[T3_]at h12;and_intros<;>omega)|(simp only[T3_]at h28;and_intros<;>omega))
  refine .seq (.rgo [] ?_ ?_)
  ·(first|trivial|(simp;done)|(simp only[T3_]at h12;and_intros<;>omega)|(simp only[T3_]at h28;and_intros<;>omega))
  refine .cB (fun h20=>?_) (fun h20=>?_)
  ·simp only[T3_]at h12 h20;have e:=oa_ (X:=X) (k:=k) (by omega);have e2:=hs (k+1);rw[aj_ (by omega) (by omega)]at h20;omega
  ·refine .skip (.rgo [] ?_ ?_)
   ·(first|trivial|(simp;done)|(simp only[T3_]at h12;and_intros<;>omega)|(simp only[T3_]at h28;and_intros<;>omega))
   refine Exists.intro (k+1) ⟨?_,?_,?_⟩
   ·simp at h12;omega
   ·simp at h12;omega
   refine Can.wh ?_;first|trivial|(simp at h12;have e:=oa_ h12;have e2:=hs (k+1);rw[aj_ (by omega) (by omega),aj_ (by omega) (by omega)];(try simp[e]))
 ·refine .exit (.seq (.rgo [bf_ [] [34] (aw2_ X.flatten.length h0 h1)] ?_ ?_))
  ·simp only[T4_]at h12;exact⟨by rw[acx_ (by omega)],by simp⟩
  refine .seq (.seq (.rgo [] ?_ ?_))
  ·(first|trivial|(simp;done)|(simp only[T3_]at h12;and_intros<;>omega)|(simp only[T3_]at h28;and_intros<;>omega))
  refine .block (.loopK (fun k:Nat=>⟨[.no,.no,.no,.no,.no,.no,.ow 80 4 0 (sy_ X k),.no,.no,.no,.no,.no,.no,.no,.no,.no,.no,.no,.no,.no,.no,.no,.no,.no,.no,.sl false (plR X),.i .i64 X.length,.i .i64 k,.no,.no,.no,.no,.no,.no,.no,.no],ak_ [(80,⟨67,4,pgR (X.take k).flatten⟩)],us [80]⟩) (fun k:Nat=>k≤X.length) (fun k:Nat=>X.length - k) (0) ?_ ?_ (fun k hI=>?_))
  ·simp
  ·refine Can.trans (Can.sX 34 80) ?_
   refine Can.wk ?_ ?_
   ·first|trivial|((try simp[sy_]))
   ·first|trivial|((try simp[pgR]))
  refine .seq (.rgo [] ?_ ?_)
  ·(first|trivial|(simp;done)|(simp only[T3_]at h12;and_intros<;>omega)|(simp only[T3_]at h28;and_intros<;>omega))
  refine .seq (.cB (fun h28=>?_) (fun h28=>?_))
  ·refine .skip (.seq (.block (.seq (.rgo [] ?_ ?_ (h:=by simp only[go_sem,seval,ajl_ (show k<X.length by simpa using h28)];rfl)))))
   ·(first|trivial|(simp;done)|(simp only[T3_]at h12;and_intros<;>omega)|(simp only[T3_]at h28;and_intros<;>omega))
   refine .rgo [] ?_ ?_
   ·simp only[T3_]at h28;have e:=oa_ (X:=X) (k:=k) (by omega);have e2:=hs (k+1);exact⟨hr2 k,by simp,arz_ k,by omega⟩
   refine .rgo [] ?_ ?_
   ·(first|trivial|(simp;done)|(simp only[T3_]at h12;and_intros<;>omega)|(simp only[T3_]at h28;and_intros<;>omega))
   refine Exists.intro (k+1) ⟨?_,?_,?_⟩
   ·simp at h28;omega
   ·simp at h28;omega
   refine Can.trans (Can.sX 43 80) ?_
   refine Can.wk ?_ ?_
   ·first|trivial|(simp only[T3_]at h28;exact⟨by rw[oa_ (by omega)],aj_ (n:=((k+1:Nat):Int)) (by omega) (by omega)⟩)
   ·first|trivial|(simp only[T3_]at h28;rw[anx_ (by omega)];simp[pgR])
  ·refine .exit (.seq (.rgo [] ?_ ?_))
   ·(first|trivial|(simp;done)|(simp only[T3_]at h12;and_intros<;>omega)|(simp only[T3_]at h28;and_intros<;>omega))
   refine .ret ⟨.inr rfl,?_⟩
   exact Out.mm (by simp only[Tryz.results147];rfl) (by simp only[ag_,rns,rn,go_sem,seval]<;>(simp only[T4_]at h28;rw[acx_ (by omega)])) (by simp only[at_,go_sem,seval]<;>(simp only[T4_]at h28;rw[T1_ (by omega)]))
theorem amu_ (e:Pg) (r:List Pg):pgR (e::r)=pgC e::pgR r:=rfl
theorem ace_ (l:List Pg):∀r∈pgR l,r.length=4:=fun r hr=>by obtain⟨p,_,rfl⟩:=List.mem_map.1 hr;rfl
attribute [local go_sem] amu_ bl_ rnr in
theorem akq_ (e:Pg) (r:List Pg) (hl:r.length<1000000):ACall En 268 [.sl false (pgR (e::r))] [] [.ow 0 4 0 (r.length+1)] [⟨67,4,pgR (e::r)⟩]:=by
 have hc:∀l:List Pg,clr 1 (pgR l)=true:=fun l=>kk_ _ _ (a6_ l)
 have hcc:cls 1 (pgC e)=true:=ec_ _ _ (vn_ e)
 have hrn:rns [17] (pgC e)=pgC e:=ee_ _ _ (vn_ e)
 have hrr:rnr [17] (pgR r)=pgR r:=be_ _ _ (a6_ r)
 refine aa_ [17] Tryz.func268 Tryz.ntmps268 fun C=>?_
 refine .seq (.rgo [] ?_ ?_ (h:=by simp only[go_sem,seval,hc,hcc,hrn,hrr];rfl))
 ·(first|trivial|(simp;done)|(simp[pgC];done))
 refine .seq (.seq (.rgSo [4] [nilO En] ?_ ?_ (h:=by simp only[go_sem,seval,hc,hcc,hrn,hrr];rfl)))
 ·(first|trivial|(simp;done)|(simp[pgC];done))
 refine .cB (fun h4=>?_) (fun h4=>?_) (hc:=by simp only[go_sem,seval,hc,hcc,hrn,hrr];rfl) (hp:=by simp only[go_sem,seval,hc,hcc,hrn,hrr])
 ·exact absurd h4 (by simp)
 ·refine .skip (.seq (.rgo [] ?_ ?_ (h:=by simp only[go_sem,seval,hc,hcc,hrn,hrr];rfl)))
  ·refine⟨ace_ (e::r),by simp,?_⟩;omega
  refine .ret ⟨.inr rfl,?_⟩
  exact Out.mm (by simp only[Tryz.results268];rfl) (by simp only[ag_,rns,rn,go_sem,seval,hc,hcc,hrn,hrr]<;>(simp)) (by simp only[at_,go_sem,seval,hc,hcc,hrn,hrr]<;>((try rfl))) (h1:=by simp only[a8_,b4_,go_sem,seval,hc,hcc,hrn,hrr]) (h6:=by simp only[go_sem,seval,hc,hcc,hrn,hrr]) (h7:=by simp only[bm_,go_sem,seval,hc,hcc,hrn,hrr])
attribute [local go_sem] a6_ bl_ in
theorem auo_ (l:List Pg) (hl:l.length<1000000):ACall En 267 [.ow 0 4 0 l.length] [⟨67,4,pgR l⟩] [.ow 0 4 0 l.length] [⟨67,4,pgR l⟩]:=by
 refine aa_ [0] Tryz.func267 Tryz.ntmps267 fun C=>?_
 refine .seq (.rg [] ?_)
 refine .seq (.rg [] ?_)
 refine .ret ⟨.inr rfl,?_⟩
 exact Out.mm (by simp only[Tryz.results267];rfl) (by simp only[ag_,rns,rn,go_sem,seval]<;>((try simp))) (by simp only[at_,go_sem,seval]<;>((try simp)))
attribute [local go_sem] a6_ bl_ in
theorem apj_ (l:List Pg) (h0:0<l.length) (hl:l.length<1000000):ACall En 213 [.sl false (pgR l)] [] [.ow 0 4 0 l.length] [⟨67,4,pgR l⟩]:=by
 have CC:ACall En 268 [.sl false (pgR l)] [] [.ow 0 4 0 l.length] [⟨67,4,pgR l⟩]:=by
  cases l with
  |nil=>simp at h0
  |cons e r=>exact akq_ e r (by simp at hl;omega)
 refine aa_ [14] Tryz.func213 Tryz.ntmps213 fun C=>?_
 refine .seq (.rg [] ?_)
 refine .seq (.rg [bf_ [] [14] CC,bf_ [14] [] (auo_ l hl)] ?_)
 refine .ret ⟨.inr rfl,?_⟩
 exact Out.mm (by simp only[Tryz.results213];rfl) (by simp only[ag_,rns,rn,go_sem,seval]<;>((try simp))) (by simp only[at_,go_sem,seval]<;>((try simp)))
theorem amm_ (X:List (List Pg)) (h0:0<X.flatten.length) (h1:X.flatten.length≤100000) (h2:X.length≤100):ACall En 147 [.sl false (plR X)] [] [.sl false (pgR X.flatten)] []:=
 (aow_ X h0 h1 h2).frz1 (by simp[er_,frz,bl_,T1_])
theorem avc_ {l:List Pg} {k:Nat} (h:k<l.length):(pgR l).set k [.s (l.getD k Pg0).line,.b (l.getD k Pg0).good,.s (l.getD k Pg0).text,.sl false (inR (l.getD k Pg0).frm)]=pgR l:=by
 refine List.ext_getElem (by simp) fun j h1 h2=>?_
 rw[List.getElem_set]
 split
 ·rename_i e;subst e
  have:=c9_ h
  rw[T8_,T6_ h2]at this
  exact this.symm
 ·rfl
theorem ayt_ {l:List Pg} {k z n:Nat} {rows:List (List V)} {a t:Str} {g:Bool} (hn:n=rows.length):ij_ 29 z rows ((pgR l).set k [.s a,.b g,.s t,.ow 29 z 0 n])=(pgR l).set k [.s a,.b g,.s t,.sl false rows]:=by
 have h:∀(L:List (List V)) (i:Nat) (r:List V),ij_ 29 z rows (L.set i r)=(ij_ 29 z rows L).set i (er_ 29 z rows r):=by
  intro L
  induction L with
  |nil=>intro i r;rfl
  |cons x L ih=>
   intro i r
   cases i with
   |zero=>rfl
   |succ i=>simp only[List.set_cons_succ,ij_,ih]
 rw[h,kr_ _ (a6_ l)]
 congr 1
 subst hn
 simp[er_,frz,T1_]
attribute [local go_sem] at_ bm_ bl_ a6_ cn_ ao_ as_ in
theorem agt_ (l:List Pg) (h0:0<l.length) (hl:l.length≤100000) (hs:∀p∈l,pgB p):ACall En 146 [.sl false (pgR l)] [] [.sl false (pgR l)] []:=by
 refine aa_ [] Tryz.func146 Tryz.ntmps146 fun C=>?_
 refine .seq (.rgo [] ?_ ?_)
 ·(first|trivial|(simp;done)|(simp only[T3_]at h11;and_intros<;>first|omega|(simp;done)))
 refine .seq (.rgo [bf_ [] [17] (apj_ l h0 (by omega))] ?_ ?_)
 ·(first|trivial|(simp;done)|(simp only[T3_]at h11;and_intros<;>first|omega|(simp;done)))
 refine .seq (.seq (.rgo [] ?_ ?_))
 ·(first|trivial|(simp;done)|(simp only[T3_]at h11;and_intros<;>first|omega|(simp;done)))
 refine .block (.loopK (fun k:Nat=>⟨[.no,.no,.no,.ow 17 4 0 l.length,.no,.no,.no,.no,.sl false (pgR l),.i .i64 l.length,.i .i64 k,.no,.no,.no,.no,.no,.no,.no,.no,.no,.no,.no,.no,.no],ak_ [(17,⟨67,4,pgR l⟩)],us [17]⟩) (fun k:Nat=>k≤l.length) (fun k:Nat=>l.length - k) (0) ?_ ?_ (fun k hI=>?_))
 ·simp
 ·refine Can.wh ?_;first|trivial|((try simp))
 refine .seq (.rgo [] ?_ ?_)
 ·(first|trivial|(simp;done)|(simp only[T3_]at h11;and_intros<;>first|omega|(simp;done)))
 refine .seq (.cB (fun h11=>?_) (fun h11=>?_))
 ·refine .skip (.seq (.block (.seq (.rgo [] ?_ ?_ (h:=by simp only[go_sem,seval,c9_ (show k<l.length by simpa using h11)];rfl)))))
  ·(first|trivial|(simp;done)|(simp only[T3_]at h11;and_intros<;>first|omega|(simp;done)))
  refine .rgo [qr_ [] [29] (k<l.length) (fun h=>adp_ (l.getD k Pg0).frm (by have:=(hs _ (am_ (d:=Pg0) h)).2.2;omega))] ?_ ?_ (h:=by simp only[go_sem,seval,c9_ (show k<l.length by simpa using h11)];rfl)
  ·(first|trivial|(simp;done)|(simp only[T3_]at h11;and_intros<;>first|omega|(simp;done)))
  refine .rgo [] ?_ ?_
  ·(first|trivial|(simp;done)|(simp only[T3_]at h11;and_intros<;>first|omega|(simp;done)))
  refine Exists.intro (k+1) ⟨?_,?_,?_⟩
  ·simp at h11;omega
  ·simp at h11;omega
  refine Can.trans (Can.frz 29 (by simp only[go_sem,seval]<;>rfl) (by simp only[go_sem,seval]) (by simp only[go_sem,seval]<;>rfl) (by simp only[go_sem,seval]<;>rfl)) ?_
  refine Can.wk ?_ ?_
  ·first|trivial|(rw[aj_ (by simp at h11;omega) (by simp at h11;omega)];(try simp))
  ·first|trivial|(simp only[T3_]at h11;rw[ayt_ (by rw[as_]),avc_ (by omega)])
 ·refine .exit (.seq (.rgo [] ?_ ?_))
  ·(first|trivial|(simp;done)|(simp only[T3_]at h11;and_intros<;>first|omega|(simp;done)))
  refine .fX 17 ?_
  refine .ret ⟨.inr rfl,?_⟩
  exact Out.pl (by simp only[Tryz.results146];rfl) (by simp only[ag_,go_sem,seval]<;>(simp[T1_,bl_,peel]))
theorem an5_ (l:List Pg) (n:Nat):(pgR l).take n=pgR (l.take n):=by simp[pgR,List.map_take]
theorem aou_ (l:List Pg) (n:Nat):(pgR l).drop n=pgR (l.drop n):=by simp[pgR,List.map_drop]
attribute [local go_sem] at_ bm_ bl_ a6_ cn_ ao_ al_ aq_ in
theorem nu_ (l:List Pg) (a:Int) (d:Nat) (ls:List Str) (hs:∀p∈l,pgB p) (hl:l.length≤2000000) (ha : -9223372036854775808≤a) (ha2:a<9223372036854775808) (hd:d≤1) (hls:∀s∈ls,s.length≤2000000) (hn:ls.length≤1):ACall En 80 [.sl false (pgR l),.i .i64 a,.i .i64 d,.sl false (an_ ls)] [] [.sl false (pgR (chg l a d ls)),.b (bc_ l a d ls)] []:=by
 have hw1:IntKind.i64.wrap ((l.length:Int) - d)=(l.length:Int) - d:=by rw[aj_ (by omega) (by omega)]
 have hw2:IntKind.i64.wrap ((l.length:Int) - d+ls.length)=(l.length:Int) - d+ls.length:=by rw[aj_ (by omega) (by omega)]
 have hw3:bc_ l a d ls=true→IntKind.i64.wrap (a+d)=a+d:=fun h=>by obtain⟨q1,q2,q3,q4,q5,q6⟩:=dt_ h;rw[aj_ (by omega) (by omega)]
 have hO:bc_ l a d ls=(((bq_ l&&(decide (0≤a)&&decide (a≤(l.length:Int) - d)))&&ls.all ez_)&&(decide (1≤(l.length:Int) - d+ls.length)&&decide ((l.length:Int) - d+ls.length≤16))):=rfl
 have hC1:bc_ l a d ls=true→0<(ny_ l a.toNat d ls).length:=fun h=>by
  obtain⟨q1,q2,q3,q4,q5,q6⟩:=dt_ h
  rw[ui_ (by omega)];omega
 have hC2:bc_ l a d ls=true→(ny_ l a.toNat d ls).length≤100000:=fun h=>by
  obtain⟨q1,q2,q3,q4,q5,q6⟩:=dt_ h
  rw[ui_ (by omega)];omega
 have hfl:[l.take a.toNat,ls.map du_,l.drop (a.toNat+d)].flatten=ny_ l a.toNat d ls:=by simp[ny_]
 have hF1:bc_ l a d ls=true→0<[l.take a.toNat,ls.map du_,l.drop (a.toNat+d)].flatten.length:=fun h=>by rw[hfl];exact hC1 h
 have hF2:bc_ l a d ls=true→[l.take a.toNat,ls.map du_,l.drop (a.toNat+d)].flatten.length≤100000:=fun h=>by rw[hfl];exact hC2 h
 have hN:∀x:Bool,(!bq_ l||!(decide (0≤a)&&decide (a≤(l.length:Int) - d))||!ls.all ez_||!(decide (1≤(l.length:Int) - d+ls.length)&&decide ((l.length:Int) - d+ls.length≤16)))=x→bc_ l a d ls=!x:=fun x h=>by
  rw[hO,←h,←Bool.not_and,←Bool.not_and,←Bool.not_and,Bool.not_not]
 have hall:(ls.any fun p=>!ez_ p)=!ls.all ez_:=by rw[List.any_eq_not_all_not];simp
 refine aa_ [] Tryz.func80 Tryz.ntmps80 fun C=>?_
 refine .seq (.rgo [] ?_ ?_ (h:=by simp only[go_sem,seval,hw1,hw2,hall];rfl))
 ·(first|trivial|(simp;done)|(simp only[T3_]at h43;and_intros<;>first|omega|(simp;done)|(simp;omega)))
 refine .seq (.seq (.rgo [ab_ (m5_ l hs (by omega)),ab_ (sz_ a 0 ((l.length:Int) - d)),ab_ (aqo_ ls (fun s h=>by have:=hls s h;omega) (by omega)),ab_ (sz_ ((l.length:Int) - d+ls.length) 1 16)] ?_ ?_ (h:=by simp only[go_sem,seval,hw1,hw2,hall];rfl)))
 ·(first|trivial|(simp;done)|(simp only[T3_]at h43;and_intros<;>first|omega|(simp;done)|(simp;omega)))
 refine .cB (fun h39=>?_) (fun h39=>?_) (hc:=by simp only[go_sem,seval,hw1,hw2,hall];rfl) (hp:=by simp only[go_sem,seval,hw1,hw2,hall])
 ·refine .seq (.rgo [] ?_ ?_ (h:=by simp only[go_sem,seval,hw1,hw2,hall];rfl))
  ·(first|trivial|(simp;done)|(simp only[T3_]at h43;and_intros<;>first|omega|(simp;done)|(simp;omega)))
  refine .ret ⟨.inr rfl,?_⟩
  exact Out.plL (by simp only[Tryz.results80];rfl) (by simp only[ag_,go_sem,seval,hw1,hw2,hall]<;>(have e:bc_ l a d ls=false:=(by rw[hN _ h39];rfl);rw[z7_ e,e];simp[les,leV,ler,pgR])) (h1:=by simp only[a8_,b4_,go_sem,seval,hw1,hw2,hall]<;>(split<;>rfl)) (h3:=by simp only[go_sem,seval,hw1,hw2,hall])
 ·refine .skip (.seq (.rgo [] ?_ ?_ (h:=by simp only[go_sem,seval,hw1,hw2,hall];rfl)))
  ·(first|trivial|(simp;done)|(simp only[T3_]at h43;and_intros<;>first|omega|(simp;done)|(simp;omega)))
  refine .seqJ (fun u:Unit=>⟨[.sl false (pgR l),.i .i64 a,.i .i64 d,.no,.no,.no,.no,.no,.no,.no,.sl false (pgR (ls.map du_)),.no,.no,.no,.no,.no,.no,.no,.no,.no,.no,.no,.no,.no,.no,.no,.no,.no,.no,.no,.no,.no,.no,.no,.no,.no,.no,.no,.no,.no,.no,.no,.no,.no,.no,.no,.no,.no,.no,.no,.no,.no,.no,.no,.no,.no,.no,.no,.no,.no,.no,.no,.no,.no],ak_ [],us []⟩) (fun u:Unit=>bc_ l a d ls=true) ?_ (fun u hJ=>?_)
  ·refine .seq (.rgo [] ?_ ?_ (h:=by simp only[go_sem,seval,hw1,hw2,hall];rfl))
   ·(first|trivial|(simp;done)|(simp only[T3_]at h43;and_intros<;>first|omega|(simp;done)|(simp;omega)))
   refine .block (.loopK (fun k:Nat=>⟨[.sl false (pgR l),.i .i64 a,.i .i64 d,.no,.no,.no,.no,.no,.no,.no,.ow 100 4 0 k,.no,.no,.no,.no,.no,.no,.no,.no,.no,.no,.no,.no,.no,.no,.no,.no,.no,.no,.no,.no,.no,.no,.no,.no,.no,.no,.no,.no,.no,.sl false (an_ ls),.i .i64 ls.length,.i .i64 k,.no,.no,.no,.no,.no,.no,.no,.no,.no,.no,.no,.no,.no,.no,.no,.no,.no,.no,.no,.no,.no],ak_ [(100,⟨67,4,pgR ((ls.take k).map du_)⟩)],us [100]⟩) (fun k:Nat=>k≤ls.length∧bc_ l a d ls=true) (fun k:Nat=>ls.length - k) (0) ?_ ?_ (fun k hI=>?_))
   ·exact⟨Nat.zero_le _,by rw[hN _ h39];rfl⟩
   ·refine Can.trans (Can.ownSlot 10 100 67 4 (by simp only[go_sem,seval,hw1,hw2,hall]<;>rfl) (by simp only[go_sem,seval,hw1,hw2,hall]) (by simp only[go_sem,seval,hw1,hw2,hall]<;>rfl)) ?_
    exact Can.wl (h:=by simp only[go_sem,seval,hw1,hw2,hall,ae_,leV,ac_,ad_,V.inn,us,T9_,Ta_]<;>((try simp))) (hi:=by simp only[go_sem,seval,hw1,hw2,hall,ae_,leV,ac_,ad_,V.inn,us,T9_,Ta_]) (hL:=by simp only[go_sem,seval,hw1,hw2,hall,ae_,leV,ac_,ad_,V.inn,us,T9_,Ta_]<;>((try simp[pgR])))
   refine .seq (.rgo [] ?_ ?_ (h:=by simp only[go_sem,seval,hw1,hw2,hall];rfl))
   ·(first|trivial|(simp;done)|(simp only[T3_]at h43;and_intros<;>first|omega|(simp;done)|(simp;omega)))
   refine .seq (.cB (fun h43=>?_) (fun h43=>?_) (hc:=by simp only[go_sem,seval,hw1,hw2,hall];rfl) (hp:=by simp only[go_sem,seval,hw1,hw2,hall]))
   ·refine .skip (.seq (.block (.seq (.rgo [] ?_ ?_ (h:=by simp only[go_sem,seval,hw1,hw2,hall,aw_ (show k<ls.length by simpa using h43)];rfl)))))
    ·(first|trivial|(simp;done)|(simp only[T3_]at h43;and_intros<;>first|omega|(simp;done)|(simp;omega)))
    refine .rgo [a4_ (k<ls.length) (fun h=>rv_ (ls.getD k []) (by have:=hls _ (am_ (d:=[]) h);omega))] ?_ ?_ (h:=by simp only[go_sem,seval,hw1,hw2,hall];rfl)
    ·(first|trivial|(simp;done)|(simp only[T3_]at h43;and_intros<;>first|omega|(simp;done)|(simp;omega)))
    refine .rgo [] ?_ ?_ (h:=by simp only[go_sem,seval,hw1,hw2,hall];rfl)
    ·(first|trivial|(simp;done)|(simp only[T3_]at h43;and_intros<;>first|omega|(simp;done)|(simp;omega)))
    refine Exists.intro (k+1) ⟨?_,?_,?_⟩
    ·simp at h43;exact⟨by omega,hI.2⟩
    ·simp at h43;omega
    refine Can.trans (Can.swap 60 100 (by decide) (by decide) (by decide) (by decide) (by simp only[go_sem,seval,hw1,hw2,hall,V.cl]) (by simp only[go_sem,seval,hw1,hw2,hall,V.cl]) (by simp only[go_sem,seval,hw1,hw2,hall,ah_,sw,swM,rnB]<;>rfl) (by simp only[go_sem,seval,hw1,hw2,hall,ah_,sw,swM,rnB]<;>rfl) (by simp only[go_sem,seval,hw1,hw2,hall,ah_,sw,swM,rnB]<;>rfl)) ?_
    exact Can.wl (h:=by simp only[go_sem,seval,hw1,hw2,hall,ae_,leV,ac_,ad_,V.inn,us,T9_,Ta_]<;>(rw[aj_ (by simp at h43;omega) (by simp at h43;omega)];(try simp))) (hi:=by simp only[go_sem,seval,hw1,hw2,hall,ae_,leV,ac_,ad_,V.inn,us,T9_,Ta_]) (hL:=by simp only[go_sem,seval,hw1,hw2,hall,ae_,leV,ac_,ad_,V.inn,us,T9_,Ta_]<;>(rw[bkTk (by simpa using h43),cn_]))
   ·refine .exit ?_
    refine Exists.intro (()) ⟨?_,?_⟩
    ·exact hI.2
    refine Can.trans (Can.frz 100 (by simp only[go_sem,seval,hw1,hw2,hall]<;>rfl) (by simp only[go_sem,seval,hw1,hw2,hall]) (by simp only[go_sem,seval,hw1,hw2,hall]<;>rfl) (by simp only[go_sem,seval,hw1,hw2,hall]<;>rfl)) ?_
    exact Can.wl (h:=by simp only[go_sem,seval,hw1,hw2,hall,ae_,leV,ac_,ad_,V.inn,us,T9_,Ta_]<;>(simp only[T4_]at h43;(obtain rfl:k=ls.length:=(by omega));simp[T1_,bl_,leV,af_])) (hi:=by simp only[go_sem,seval,hw1,hw2,hall,ae_,leV,ac_,ad_,V.inn,us,T9_,Ta_]) (hL:=by simp only[go_sem,seval,hw1,hw2,hall,ae_,leV,ac_,ad_,V.inn,us,T9_,Ta_])
  refine .seq (.rgDo [a4_ (bc_ l a d ls=true) (fun h=>amm_ [l.take a.toNat,ls.map du_,l.drop (a.toNat+d)] (hF1 h) (hF2 h) (by simp)),a4_ (bc_ l a d ls=true) (fun h=>agt_ (ny_ l a.toNat d ls) (hC1 h) (hC2 h) (aw6_ hs hls))] ?_ ?_ (h:=by simp only[go_sem,seval,hw1,hw2,hall,hw3 hJ,plR,List.map_cons,List.map_nil,T7_,List.length_nil,an5_,aou_,List.drop_zero,List.take_length,Int.toNat_natCast,show(a+(d:Int)).toNat=a.toNat+d by have:=(dt_ hJ).2.1;omega];rfl))
  ·obtain⟨q1,q2,q3,q4,q5,q6⟩:=dt_ hJ;refine⟨⟨⟨⟨by omega,by omega,by omega,fun h=>absurd rfl h⟩,⟨by omega,by omega,by omega⟩,.inr (ace_ l)⟩,hJ⟩,by rw[hfl];exact af_ _,hJ⟩
  refine .ret ⟨.inr rfl,?_⟩
  exact Out.plL (by simp only[Tryz.results80];rfl) (by simp only[ag_,go_sem,seval,hw1,hw2,hall]<;>(rw[ri_ hJ,hJ];simp[les,leV,af_])) (h1:=by simp only[a8_,b4_,go_sem,seval,hw1,hw2,hall]<;>(split<;>rfl)) (h3:=by simp only[go_sem,seval,hw1,hw2,hall])
attribute [local go_sem] a6_ aq_ in
theorem abf_ (l:List Pg) (a:Int) (w:Str) (hs:∀p∈l,pgB p) (hl:l.length≤2000000) (ha : -9223372036854775808≤a) (ha2:a<9223372036854775808) (hw:w.length≤2000000):ACall En 44 [.sl false (pgR l),.i .i64 a,.s w] [] [.sl false (pgR (chg l a 1 [w])),.b (bc_ l a 1 [w])] []:=by
 refine aa_ [] Tryz.func44 Tryz.ntmps44 fun C=>?_
 refine .seq (.rg [] ?_)
 refine .seq (.rg [ab_ (nu_ l a 1 [w] hs hl ha ha2 (by decide) (by simpa using hw) (by simp))] ?_)
 refine .ret ⟨.inr rfl,?_⟩
 exact Out.pl (by simp only[Tryz.results44];rfl) (by simp only[ag_,go_sem,seval]<;>(simp_all))
attribute [local go_sem] a6_ aq_ in
theorem t9_ (l:List Pg) (a:Int) (w:Str) (hs:∀p∈l,pgB p) (hl:l.length≤2000000) (ha : -9223372036854775808≤a) (ha2:a<9223372036854775808) (hw:w.length≤2000000):ACall En 40 [.sl false (pgR l),.i .i64 a,.s w] [] [.sl false (pgR (chg l a 0 [w])),.b (bc_ l a 0 [w])] []:=by
 refine aa_ [] Tryz.func40 Tryz.ntmps40 fun C=>?_
 refine .seq (.rg [] ?_)
 refine .seq (.rg [ab_ (nu_ l a 0 [w] hs hl ha ha2 (by decide) (by simpa using hw) (by simp))] ?_)
 refine .ret ⟨.inr rfl,?_⟩
 exact Out.pl (by simp only[Tryz.results40];rfl) (by simp only[ag_,go_sem,seval]<;>(simp_all))
attribute [local go_sem] a6_ aq_ in
theorem ach_ (l:List Pg) (a:Int) (hs:∀p∈l,pgB p) (hl:l.length≤2000000) (ha : -9223372036854775808≤a) (ha2:a<9223372036854775808):ACall En 45 [.sl false (pgR l),.i .i64 a] [] [.sl false (pgR (chg l a 1 [])),.b (bc_ l a 1 [])] []:=by
 refine aa_ [] Tryz.func45 Tryz.ntmps45 fun C=>?_
 refine .seq (.rg [] ?_)
 refine .seq (.rg [ab_ (nu_ l a 1 [] hs hl ha ha2 (by decide) (fun s h=>by cases h) (by simp))] ?_)
 refine .ret ⟨.inr rfl,?_⟩
 exact Out.pl (by simp only[Tryz.results45];rfl) (by simp only[ag_,go_sem,seval]<;>(simp_all))
end
section
open Go.RowKit
set_option maxRecDepth 100000
set_option maxHeartbeats 8000000
abbrev dk (b:List Pg):List Blk:=[⟨36,1,[[.sl false (pgR b)]]⟩]
attribute [local go_sem] at_ bm_ a6_ in
theorem po_ (b x:List Pg) (ok:Bool):ACall En 39 [.pt 0 1 0 0,.sl false (pgR x),.b ok] (dk b) [.s (hw_ b x ok).2] (dk (hw_ b x ok).1):=by
 refine aa_ [0] Tryz.func39 Tryz.ntmps39 fun C=>?_
 refine .seq (.rg [] ?_)
 refine .seq (.seq (.rg [] ?_))
 refine .cB (fun h8=>?_) (fun h8=>?_)
 ·refine .seq (.rg [] ?_)
  refine .ret ⟨.inr rfl,?_⟩
  exact Out.mm (by simp only[Tryz.results39];rfl) (by simp only[ag_,rns,rn,go_sem,seval]<;>(simp only[Bool.not_eq_true']at h8;unfold hw_;rw[h8];rfl)) (by simp only[at_,go_sem,seval]<;>(simp only[Bool.not_eq_true']at h8;unfold hw_;rw[h8];rfl))
 ·refine .skip (.seq (.rg [] ?_))
  refine .seq (.rg [] ?_)
  refine .ret ⟨.inr rfl,?_⟩
  exact Out.mm (by simp only[Tryz.results39];rfl) (by simp only[ag_,rns,rn,go_sem,seval]<;>(simp only[Bool.not_eq_false']at h8;unfold hw_;rw[h8];rfl)) (by simp only[at_,go_sem,seval]<;>(simp only[Bool.not_eq_false']at h8;unfold hw_;rw[h8];rfl))
attribute [local go_sem] at_ bm_ a6_ bl_ cg_ ao_ dx_ in
theorem axn_ (b:List Pg) (w:Str) (hb:bq_ b=true):ACall En 42 [.pt 0 1 0 0,.s w] (dk b) [.s (fg_ b w)] (dk b):=by
 obtain⟨hs,hl0⟩:=pf_ hb
 have hl:b.length≤2000000:=by omega
 have t1:=mv_ b
 have t2:=rj_ b
 have t3:=wk_ b
 have t4:=kf_ b
 have t5:=gm_ (lx_ b)
 have t6:=aam_ (a9_ b)
 have t7:=q6_ (e0_ b)
 have sm:oh_ (prL (bo_ b))=true:=by unfold prL;split;exact jo_ _;rfl
 have hn:(prL (bo_ b)).length≤1000000:=by
  unfold prL;split
  ·have:=e1_ (bo_ b);simp;omega
  ·simp
 have t8:=q9_ (prL (bo_ b))
 have hi:inR [gy_ (prL (bo_ b))]=[[.i .i64 (gy_ (prL (bo_ b)))]]:=rfl
 refine aa_ [0] Tryz.func42 Tryz.ntmps42 fun C=>?_
 refine .seq (.rgo [] ?_ ?_ (h:=by simp only[go_sem,seval,hi];rfl))
 ·(first|trivial|(simp;done)|omega|(simp;omega))
 refine .seq (.seq (.rgo [] ?_ ?_ (h:=by simp only[go_sem,seval,hi];rfl)))
 ·(first|trivial|(simp;done)|omega|(simp;omega))
 refine .block (.seq (.rgo [] ?_ ?_ (h:=by simp only[go_sem,seval,hi];rfl)))
 ·(first|trivial|(simp;done)|omega|(simp;omega))
 refine .cB (fun h8=>?_) (fun h8=>?_) (hc:=by simp only[go_sem,seval,hi];rfl) (hp:=by simp only[go_sem,seval,hi])
 ·refine .seq (.rgo [ab_ (sl_ b hs hl)] ?_ ?_ (h:=by simp only[go_sem,seval,hi];rfl))
  ·(first|trivial|(simp;done)|omega|(simp;omega))
  refine .ret ⟨.inr rfl,?_⟩
  exact Out.mm (by simp only[Tryz.results42];rfl) (by simp only[ag_,rns,rn,go_sem,seval,hi]<;>(unfold fg_;rw[if_pos (by simpa using h8)])) (by simp only[at_,go_sem,seval,hi]<;>(rfl)) (h1:=by simp only[a8_,b4_,go_sem,seval,hi]) (h6:=by simp only[go_sem,seval,hi]) (h7:=by simp only[bm_,go_sem,seval,hi])
 ·refine .seq (.rgo [] ?_ ?_ (h:=by simp only[go_sem,seval,hi];rfl))
  ·(first|trivial|(simp;done)|omega|(simp;omega))
  refine .cB (fun h16=>?_) (fun h16=>?_) (hc:=by simp only[go_sem,seval,hi];rfl) (hp:=by simp only[go_sem,seval,hi])
  ·refine .seq (.rgo [ab_ (sa_ b hs hl)] ?_ ?_ (h:=by simp only[go_sem,seval,hi];rfl))
   ·(first|trivial|(simp;done)|omega|(simp;omega))
   refine .ret ⟨.inr rfl,?_⟩
   exact Out.mm (by simp only[Tryz.results42];rfl) (by simp only[ag_,rns,rn,go_sem,seval,hi]<;>(unfold fg_;rw[if_neg (by simpa using h8),if_pos (by simpa using h16)])) (by simp only[at_,go_sem,seval,hi]<;>(rfl)) (h1:=by simp only[a8_,b4_,go_sem,seval,hi]) (h6:=by simp only[go_sem,seval,hi]) (h7:=by simp only[bm_,go_sem,seval,hi])
  ·refine .seq (.rgo [] ?_ ?_ (h:=by simp only[go_sem,seval,hi];rfl))
   ·(first|trivial|(simp;done)|omega|(simp;omega))
   refine .cB (fun h24=>?_) (fun h24=>?_) (hc:=by simp only[go_sem,seval,hi];rfl) (hp:=by simp only[go_sem,seval,hi])
   ·refine .seq (.rgo [ab_ (sj_ b hs hl),ab_ (ahs_ (a9_ b) (by omega))] ?_ ?_ (h:=by simp only[go_sem,seval,hi];rfl))
    ·(first|trivial|(simp;done)|omega|(simp;omega))
    refine .ret ⟨.inr rfl,?_⟩
    exact Out.mm (by simp only[Tryz.results42];rfl) (by simp only[ag_,rns,rn,go_sem,seval,hi]<;>(unfold fg_;rw[if_neg (by simpa using h8),if_neg (by simpa using h16),if_pos (by simpa using h24)])) (by simp only[at_,go_sem,seval,hi]<;>(rfl)) (h1:=by simp only[a8_,b4_,go_sem,seval,hi]) (h6:=by simp only[go_sem,seval,hi]) (h7:=by simp only[bm_,go_sem,seval,hi])
   ·refine .seq (.rgo [] ?_ ?_ (h:=by simp only[go_sem,seval,hi];rfl))
    ·(first|trivial|(simp;done)|omega|(simp;omega))
    refine .cB (fun h33=>?_) (fun h33=>?_) (hc:=by simp only[go_sem,seval,hi];rfl) (hp:=by simp only[go_sem,seval,hi])
    ·refine .seq (.rgo [ab_ (agg_ b hs hl),ab_ (hq_ (ks_ b) (lx_ b) (by omega))] ?_ ?_ (h:=by simp only[go_sem,seval,hi];rfl))
     ·(first|trivial|(simp;done)|omega|(simp;omega))
     refine .ret ⟨.inr rfl,?_⟩
     exact Out.mm (by simp only[Tryz.results42];rfl) (by simp only[ag_,rns,rn,go_sem,seval,hi]<;>(unfold fg_;rw[if_neg (by simpa using h8),if_neg (by simpa using h16),if_neg (by simpa using h24),if_pos (by simpa using h33)])) (by simp only[at_,go_sem,seval,hi]<;>(rfl)) (h1:=by simp only[a8_,b4_,go_sem,seval,hi]) (h6:=by simp only[go_sem,seval,hi]) (h7:=by simp only[bm_,go_sem,seval,hi])
    ·refine .seq (.rgo [] ?_ ?_ (h:=by simp only[go_sem,seval,hi];rfl))
     ·(first|trivial|(simp;done)|omega|(simp;omega))
     refine .cB (fun h42=>?_) (fun h42=>?_) (hc:=by simp only[go_sem,seval,hi];rfl) (hp:=by simp only[go_sem,seval,hi])
     ·refine .seq (.rgo [ab_ (sa_ b hs hl),ab_ (afn_ (e0_ b) (by omega)),ab_ (awa_ (i7_ (e0_ b)).1 (i7_ (e0_ b)).2 (zw_ _) (by omega))] ?_ ?_ (h:=by simp only[go_sem,seval,hi];rfl))
      ·(first|trivial|(simp;done)|omega|(simp;omega))
      refine .ret ⟨.inr rfl,?_⟩
      exact Out.mm (by simp only[Tryz.results42];rfl) (by simp only[ag_,rns,rn,go_sem,seval,hi]<;>(unfold fg_;rw[if_neg (by simpa using h8),if_neg (by simpa using h16),if_neg (by simpa using h24),if_neg (by simpa using h33),if_pos (by simpa using h42)])) (by simp only[at_,go_sem,seval,hi]<;>(rfl)) (h1:=by simp only[a8_,b4_,go_sem,seval,hi]) (h6:=by simp only[go_sem,seval,hi]) (h7:=by simp only[bm_,go_sem,seval,hi])
     ·refine .seqJ (fun u:Unit=>⟨[.pt 0 1 0 0,.s w,.no,.no,.no,.no,.no,.no,.no,.no,.no,.no,.no,.no,.no,.no,.no,.no,.no,.no,.no,.no,.no,.no,.no,.no,.no,.no,.no,.no,.no,.no,.no,.no,.no,.no,.no,.no,.no,.no,.no,.no,.no,.no,.no,.no,.no,.no,.no,.no,.no,.no,.no,.b (w==[116,121,112,101]||w==[114,117,110]),.no,.no,.no,.no,.no,.no,.no,.no,.no,.no,.no,.no,.no,.no,.no,.no,.no,.no,.no,.no,.no,.no,.no,.no,.no,.no],ak_ [(0,⟨36,1,[[.sl false (pgR b)]]⟩)],us []⟩) (fun u:Unit=>True) ?_ (fun u hJ=>?_)
      ·refine .seq (.rgo [] ?_ ?_ (h:=by simp only[go_sem,seval,hi];rfl))
       ·(first|trivial|(simp;done)|omega|(simp;omega))
       refine .cB (fun h53=>?_) (fun h53=>?_) (hc:=by simp only[go_sem,seval,hi];rfl) (hp:=by simp only[go_sem,seval,hi])
       ·refine .skip ?_
        refine Exists.intro (()) ⟨?_,?_⟩
        ·trivial
        exact Can.wl (h:=by simp only[go_sem,seval,hi,ae_,leV,ac_,ad_,V.inn,us,T9_,Ta_]<;>(first|(rw[h53];rfl)|(rw[show(w==[116,121,112,101])=false from h53];rfl))) (hi:=by simp only[go_sem,seval,hi,ae_,leV,ac_,ad_,V.inn,us,T9_,Ta_]) (hL:=by simp only[go_sem,seval,hi,ae_,leV,ac_,ad_,V.inn,us,T9_,Ta_])
       ·refine .rgo [] ?_ ?_ (h:=by simp only[go_sem,seval,hi];rfl)
        ·(first|trivial|(simp;done)|omega|(simp;omega))
        refine Exists.intro (()) ⟨?_,?_⟩
        ·trivial
        exact Can.wl (h:=by simp only[go_sem,seval,hi,ae_,leV,ac_,ad_,V.inn,us,T9_,Ta_]<;>(first|(rw[h53];rfl)|(rw[show(w==[116,121,112,101])=false from h53];rfl))) (hi:=by simp only[go_sem,seval,hi,ae_,leV,ac_,ad_,V.inn,us,T9_,Ta_]) (hL:=by simp only[go_sem,seval,hi,ae_,leV,ac_,ad_,V.inn,us,T9_,Ta_])
      refine .cB (fun h53=>?_) (fun h53=>?_) (hc:=by simp only[go_sem,seval,hi];rfl) (hp:=by simp only[go_sem,seval,hi])
      ·refine .seq (.rgo [ab_ (sl_ b hs hl),ab_ (adi_ (bo_ b) (by omega))] ?_ ?_ (h:=by simp only[go_sem,seval,hi];rfl))
       ·(first|trivial|(simp;done)|omega|(simp;omega))
       refine .seq (.block (.seq (.rgo [] ?_ ?_ (h:=by simp only[go_sem,seval,hi];rfl))))
       ·(first|trivial|(simp;done)|omega|(simp;omega))
       refine .cB (fun h65=>?_) (fun h65=>?_) (hc:=by simp only[go_sem,seval,hi];rfl) (hp:=by simp only[go_sem,seval,hi])
       ·refine .seq (.rgo [] ?_ ?_ (h:=by simp only[go_sem,seval,hi];rfl))
        ·(first|trivial|(simp;done)|omega|(simp;omega))
        refine .ret ⟨.inr rfl,?_⟩
        exact Out.mm (by simp only[Tryz.results42];rfl) (by simp only[ag_,rns,rn,go_sem,seval,hi]<;>(unfold fg_;rw[if_neg (by simpa using h8),if_neg (by simpa using h16),if_neg (by simpa using h24),if_neg (by simpa using h33),if_neg (by simpa using h42),if_pos (by simpa using h53),if_neg (by simpa using h65)])) (by simp only[at_,go_sem,seval,hi]<;>(rfl)) (h1:=by simp only[a8_,b4_,go_sem,seval,hi]) (h6:=by simp only[go_sem,seval,hi]) (h7:=by simp only[bm_,go_sem,seval,hi])
       ·refine .seq (.rgo [] ?_ ?_ (h:=by simp only[go_sem,seval,hi];rfl))
        ·(first|trivial|(simp;done)|omega|(simp;omega))
        refine .cB (fun h68=>?_) (fun h68=>?_) (hc:=by simp only[go_sem,seval,hi];rfl) (hp:=by simp only[go_sem,seval,hi])
        ·refine .seq (.rgo [ab_ (ag6_ (prL (bo_ b)) sm (by omega)),ab_ (awa_ (hf_ (prL (bo_ b))).1 (hf_ (prL (bo_ b))).2 (aad_ _) (by omega))] ?_ ?_ (h:=by simp only[go_sem,seval,hi];rfl))
         ·(first|trivial|(simp;done)|omega|(simp;omega))
         refine .ret ⟨.inr rfl,?_⟩
         exact Out.mm (by simp only[Tryz.results42];rfl) (by simp only[ag_,rns,rn,go_sem,seval,hi]<;>(unfold fg_;rw[if_neg (by simpa using h8),if_neg (by simpa using h16),if_neg (by simpa using h24),if_neg (by simpa using h33),if_neg (by simpa using h42),if_pos (by simpa using h53),if_pos (by simpa using h65),if_pos (by simpa using h68)])) (by simp only[at_,go_sem,seval,hi]<;>(rfl)) (h1:=by simp only[a8_,b4_,go_sem,seval,hi]) (h6:=by simp only[go_sem,seval,hi]) (h7:=by simp only[bm_,go_sem,seval,hi])
        ·refine .skip (.seq (.rgo [ab_ (acm_ (prL (bo_ b)) sm (by omega)),ab_ (hq_ [gy_ (prL (bo_ b))] (fun n hn=>by simp only[List.mem_singleton]at hn;subst hn;exact u7_ _) (by simp))] ?_ ?_ (h:=by simp only[go_sem,seval,hi];rfl)))
         ·(first|trivial|(simp;done)|omega|(simp;omega))
         refine .ret ⟨.inr rfl,?_⟩
         exact Out.mm (by simp only[Tryz.results42];rfl) (by simp only[ag_,rns,rn,go_sem,seval,hi]<;>(unfold fg_;rw[if_neg (by simpa using h8),if_neg (by simpa using h16),if_neg (by simpa using h24),if_neg (by simpa using h33),if_neg (by simpa using h42),if_pos (by simpa using h53),if_pos (by simpa using h65),if_neg (by simpa using h68)])) (by simp only[at_,go_sem,seval,hi]<;>(rfl)) (h1:=by simp only[a8_,b4_,go_sem,seval,hi]) (h6:=by simp only[go_sem,seval,hi]) (h7:=by simp only[bm_,go_sem,seval,hi])
      ·refine .skip (.seq (.rgo [] ?_ ?_ (h:=by simp only[go_sem,seval,hi];rfl)))
       ·(first|trivial|(simp;done)|omega|(simp;omega))
       refine .ret ⟨.inr rfl,?_⟩
       exact Out.mm (by simp only[Tryz.results42];rfl) (by simp only[ag_,rns,rn,go_sem,seval,hi]<;>(unfold fg_;rw[if_neg (by simpa using h8),if_neg (by simpa using h16),if_neg (by simpa using h24),if_neg (by simpa using h33),if_neg (by simpa using h42),if_neg (by simpa using h53)])) (by simp only[at_,go_sem,seval,hi]<;>(rfl)) (h1:=by simp only[a8_,b4_,go_sem,seval,hi]) (h6:=by simp only[go_sem,seval,hi]) (h7:=by simp only[bm_,go_sem,seval,hi])
attribute [local go_sem] at_ bm_ a6_ bl_ cg_ jh_ di_ in
theorem avo_ (b:List Pg) (w:Str) (L c:Int) (hs:∀p∈b,pgB p) (hl:b.length≤2000000):ACall En 46 [.pt 0 1 0 0,.s w,.ag [.i .i64 L,.i .i64 c]] (dk b) [.s (ib_ b w L c)] (dk b):=by
 have h1:=kf_ b
 have h2:=aax_ (a9_ b) L c
 refine aa_ [0] Tryz.func46 Tryz.ntmps46 fun C=>?_
 refine .seq (.rg [] ?_)
 refine .seq (.rg [ab_ (sj_ b hs hl)] ?_)
 refine .seq (.seq (.rg [] ?_))
 refine .cB (fun h19=>?_) (fun h19=>?_)
 ·refine .seq (.rg [ab_ (akh_ (a9_ b) L c (by omega))] ?_)
  refine .seq (.seq (.rg [] ?_))
  refine .cB (fun h27=>?_) (fun h27=>?_)
  ·refine .seq (.rg [] ?_)
   refine .ret ⟨.inr rfl,?_⟩
   exact Out.mm (by simp only[Tryz.results46];rfl) (by simp only[ag_,rns,rn,go_sem,seval]<;>(simp only[Bool.not_eq_true',Option.isSome_eq_false_iff,Option.isNone_iff_eq_none]at h27;unfold ib_;rw[if_pos (by simpa using h19),h27])) (by simp only[at_,go_sem,seval]<;>(rfl))
  ·refine .skip (.seq (.rgo [ab_ (zb_ (lkL (g2_ (a9_ b) L c)) (lkC (g2_ (a9_ b) L c)) (mu_ _ _ _).1 (mu_ _ _ _).2)] ?_ ?_))
   ·have h4:=mu_ (a9_ b) L c;have h5:=ok_ h4.1 h4.2;omega
   refine .ret ⟨.inr rfl,?_⟩
   exact Out.mm (by simp only[Tryz.results46];rfl) (by simp only[ag_,rns,rn,go_sem,seval]<;>(have e:=h27;simp only[Bool.not_eq_false']at e;obtain⟨x,hx⟩:=Option.isSome_iff_exists.1 e;unfold ib_;rw[if_pos (by simpa using h19),hx];rfl)) (by simp only[at_,go_sem,seval]<;>(rfl))
 ·refine .skip (.seq (.rg [] ?_))
  refine .seq (.seq (.rg [ab_ (ak9_ (a9_ b) L c (by omega))] ?_))
  refine .block (.loopK (fun k:Nat=>⟨[.pt 0 1 0 0,.no,.no,.no,.no,.no,.no,.no,.no,.no,.s (wu_ (dl_ (a9_ b) L c) k),.no,.no,.no,.no,.no,.no,.no,.no,.no,.no,.no,.no,.no,.no,.no,.no,.no,.no,.no,.no,.no,.no,.sl false (toR (dl_ (a9_ b) L c)),.i .i64 (dl_ (a9_ b) L c).length,.i .i64 k,.no,.no,.no,.no,.no,.no,.no,.no,.no,.no,.no],ak_ [(0,⟨36,1,[[.sl false (pgR b)]]⟩)],us []⟩) (fun k:Nat=>k≤(dl_ (a9_ b) L c).length) (fun k:Nat=>(dl_ (a9_ b) L c).length - k) (0) ?_ ?_ (fun k hI=>?_))
  ·exact Nat.zero_le _
  ·refine Can.wh ?_;first|trivial|(rfl)
  refine .seq (.rg [] ?_)
  refine .seq (.cB (fun h36=>?_) (fun h36=>?_))
  ·refine .skip (.seq (.block (.seq (.rgo [] ?_ ?_ (h:=by simp only[go_sem,seval,aa8_ (show k<(dl_ (a9_ b) L c).length by simpa using h36)];rfl)))))
   ·simp at h36;exact⟨by omega,by omega⟩
   refine .rgo [a4_ (k<(dl_ (a9_ b) L c).length) (fun h=>zb_ ((dl_ (a9_ b) L c).getD k G0).1 ((dl_ (a9_ b) L c).getD k G0).2.1 (fd_ _ _ _ _ (am_ h)).1 (fd_ _ _ _ _ (am_ h)).2.1)] ?_ ?_ (h:=by simp only[go_sem,seval,aa8_ (show k<(dl_ (a9_ b) L c).length by simpa using h36)];rfl)
   ·simp only[T3_]at h36;have hk:k<(dl_ (a9_ b) L c).length:=(by omega);have:=mx_ (fd_ (a9_ b) L c) k (by omega);have:=ok_ (fd_ _ _ _ _ (am_ (d:=G0) hk)).1 (fd_ _ _ _ _ (am_ (d:=G0) hk)).2.1;simp only[T2_,T7_,List.length_nil];exact⟨⟨hk,by omega⟩,by omega⟩
   refine .rg [] ?_
   refine Exists.intro (k+1) ⟨?_,?_,?_⟩
   ·simp at h36;omega
   ·simp at h36;omega
   refine Can.wh ?_;first|trivial|(simp at h36;rw[us_ h36,aj_ (by omega) (by omega)];exact⟨by simp,rfl⟩)
  ·refine .exit (.seq (.rgo [] ?_ ?_))
   ·have:=mx_ (fd_ (a9_ b) L c) k hI;omega
   refine .ret ⟨.inr rfl,?_⟩
   exact Out.mm (by simp only[Tryz.results46];rfl) (by simp only[ag_,rns,rn,go_sem,seval]<;>(simp only[T4_]at h36;unfold ib_;rw[if_neg (by simpa using h19)];unfold wu_;rw[T1_ (by omega)])) (by simp only[at_,go_sem,seval]<;>(rfl))
end
end Go.Proofs.YthjccajoadjicaaGreatDoor
