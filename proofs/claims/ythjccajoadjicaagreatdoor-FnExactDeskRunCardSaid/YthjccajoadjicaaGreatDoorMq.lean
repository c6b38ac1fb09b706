/- The desk: the reference's. Conditions: none. -/
import Derived.Test.YthjccajoadjicaaGreatDoorMp
set_option linter.unusedVariables false
set_option linter.unusedSimpArgs false
set_option maxRecDepth 100000
set_option maxHeartbeats 8000000
namespace Go.Proofs.YthjccajoadjicaaGreatDoor
section
def nums (l:List Str):List Int:=if l.all a8_ then l.map fun w=>(am_ w:Int)else []
theorem am8_ {l:List Str} {k:Nat} (h:k<l.length):(l.take (k+1)).map (fun w=>(am_ w:Int))=(l.take k).map (fun w=>(am_ w:Int))++[(am_ (l.getD k []):Int)]:=by
 rw[List.take_add_one,List.getElem?_eq_getElem h,List.map_append,List.getD_eq_getElem?_getD,List.getElem?_eq_getElem h];rfl
theorem a1n_ {l:List Str} {k:Nat} (h:k<l.length):(l.take (k+1)).all a8_=((l.take k).all a8_&&a8_ (l.getD k [])):=by
 rw[List.take_add_one,List.getElem?_eq_getElem h,List.all_append,List.getD_eq_getElem?_getD,List.getElem?_eq_getElem h];simp
theorem v1_ (w:Str):(!(f7_ w).2||decide ((f7_ w).1<0)||decide ((f7_ w).1 > 1000000))=!a8_ w:=by
 rw[←(qc_ w).1,show decide ((f7_ w).1<0)=!decide (0≤(f7_ w).1) by rw[←decide_not];exact decide_eq_decide.2 (by omega),show decide ((f7_ w).1 > 1000000)=!decide ((f7_ w).1≤1000000) by rw[←decide_not];exact decide_eq_decide.2 (by omega)]
 simp only[Bool.not_and,Bool.or_assoc]
attribute [local go_sem] af_ ah_ al_ a2_ in
theorem zi_ (l:List Str) (hl:l.length≤100000) (hw:∀w∈l,w.length≤100000):ACall En 55 [.sl false (ai_ l)] [] [.sl false (inR (nums l)),.b (l.all a8_)] []:=by
 refine aa_ [] Tryz.func55 Tryz.ntmps55 fun C=>?_
 refine .seq (.rg [] ?_)
 refine .seq (.rg [] ?_)
 refine .seq (.seq (.rg [] ?_))
 refine .block (.loopK (fun k:Nat=>⟨[.sl false (ai_ l),.no,.no,.no,.ow 20 1 0 k,.i .i64 k,.no,.no,.no,.no,.no,.no,.no,.no,.no,.no,.no,.no,.no,.no,.no,.no,.no,.no,.no,.no,.no,.no,.no,.no,.no,.no,.no,.no,.no,.no,.no,.no],ae_ [(20,⟨3,1,inR ((l.take k).map fun w=>(am_ w:Int))⟩)],us [20]⟩) (fun k:Nat=>k≤l.length∧(l.take k).all a8_=true) (fun k:Nat=>l.length - k) (0) ?_ ?_ (fun k hI=>?_))
 ·exact⟨Nat.zero_le _,rfl⟩
 ·refine Can.trans (Can.ownSlot 4 20 3 1 (by simp only[go_sem,seval]<;>rfl) (by simp only[go_sem,seval]) (by simp only[go_sem,seval]<;>rfl)) ?_
  refine Can.wk ?_ ?_
  ·trivial
  (try simp[inR])
 refine .seq (.seq (.rg [] ?_))
 refine .cB (fun h12=>?_) fun h12=>?_
 ·refine .skip (.seq (.block (.seq (.rgo [a0_ (k<l.length) (fun h=>v7_ (l.getD k []) (by have:=hw _ (ag_ (d:=[]) h);omega))] ?_ ?_ (h:=by simp only[go_sem,seval,an_ (show k<l.length by simpa using h12)];rfl)))))
  ·simp at h12;simp;omega
  refine .seq (.seq (.rgo [] ?_ ?_))
  ·exact⟨fun h=>by rw[h];rfl,fun h=>by rw[h];rfl⟩
  refine .cB (fun h32=>?_) fun h32=>?_
  ·refine .seq (.rg [] ?_)
   refine .ret ⟨.inr rfl,Out.pQ Tryz.results55 ?_⟩;simp at h12;rw[v1_]at h32;have e:l.all a8_=false:=(List.all_eq_false.2 ⟨l.getD k [],ag_ h12,by simpa using h32⟩);unfold nums;rw[e];exact⟨by simp[inR,ler],rfl⟩
  refine .skip (.rgo [] ?_ ?_)
  ·simp at h12;exact⟨fun r hr=>by simp at hr;subst hr;rfl,by simp,by simp;omega,by omega⟩
  refine .rg [] ?_
  refine⟨k+1,?_,?_,?_⟩
  ·simp at h12;rw[v1_]at h32;exact⟨by omega,by rw[a1n_ h12,hI.2];simpa using h32⟩
  ·simp at h12;omega
  refine Can.trans (Can.sX 46 20) ?_
  refine Can.wk ?_ ?_
  ·simp at h12;rw[ac_ (by omega) (by omega)];rfl
  simp at h12;rw[v1_]at h32;rw[am8_ h12,(qc_ (l.getD k [])).2 (by simpa using h32),tx_];rfl
 refine .exit (.seq (.rg [] ?_))
 refine .fX 20 ?_
 refine .ret ⟨.inr rfl,Out.pQ Tryz.results55 ?_⟩;simp only[decide_eq_false_iff_not]at h12;have e:=hI.2;rw[List.take_of_length_le (l:=l) (by omega)]at e ⊢;rw[e,if_pos (by simp;omega),List.take_of_length_le (by rw[a2_];simp;omega)];unfold nums;rw[if_pos e];exact⟨fv_ _,rfl⟩
attribute [local go_sem] af_ ah_ in
theorem qq_ (w:List Str) (k:Nat) (hw:kf_ w≤100000) (hk:k≤2):ACall En 57 [.sl false (ai_ w),.i .i64 k] [] [.s (ap_ (w.drop k))] []:=by
 have h1:=gu_ w
 have h2:=ra_ w k
 refine aa_ [] Tryz.func57 Tryz.ntmps57 fun C=>?_
 refine .seq (.rg [] ?_)
 refine .seq (.seq (.rg [] ?_))
 refine .cB (fun h8=>?_) fun h8=>?_
 ·refine .seq (.rg [] ?_)
  refine .ret ⟨.inr rfl,Out.pP Tryz.results57 ?_⟩;simp only[decide_eq_true_eq]at h8;rw[List.drop_of_length_le (by omega)];rfl
 refine .skip (.seq (.rgo [ab_ (ee_ (w.drop k) (by rw[List.length_drop];omega) (by omega))] ?_ ?_))
 ·simp at h8;refine⟨⟨by omega,.inr fun r hr=>by obtain⟨_,_,rfl⟩:=List.mem_map.1 hr;rfl⟩,?_⟩;rw[List.take_of_length_le (by rw[af_];exact Nat.le_refl _),show(ai_ w).drop k=ai_ (w.drop k) by simp[ai_,List.map_drop]];exact ad_ _
 refine .ret ⟨.inr rfl,Out.pP Tryz.results57 ?_⟩;trivial
def xl_ (l:List Sg) (k:Nat):Str:=((l.take k).map fun x=>xg_ x.1 x.2.1++[10]).flatten
theorem vj_ {l:List Sg} {k:Nat} (h:k<l.length):xl_ l (k+1)=xl_ l k++(xg_ (l.getD k G0).1 (l.getD k G0).2.1++[10]):=by
 unfold xl_
 rw[List.take_add_one,List.getElem?_eq_getElem h,List.getD_eq_getElem?_getD,List.getElem?_eq_getElem h,List.map_append,List.flatten_append]
 simp
theorem oe_ {a b:Int} (ha:smI a) (hb:smI b):(xg_ a b).length≤2000005:=by
 have:=e8_ ha
 have:=e8_ hb
 unfold xg_;simp only[List.length_append,List.length_cons];omega
def smS (x:Sg):Prop:=smI x.1∧smI x.2.1∧smI x.2.2.1∧smI x.2.2.2
theorem apr_ {l:List Sg} (h:h2_ l=true) {x:Sg} (hx:x∈l):smS x:=by
 obtain⟨k,hk,rfl⟩:=List.getElem_of_mem hx
 have:=ll_ h hk
 rw[List.getD_eq_getElem?_getD,List.getElem?_eq_getElem hk]at this
 simp only[Option.getD_some]at this
 unfold smS smI;omega
theorem mt_ {l:List Sg} (h:∀x∈l,smS x):∀k,k≤l.length→(xl_ l k).length≤2000006 * k
 |0,_=>by simp[xl_]
 |k+1,hk=>by
  have h1:=mt_ h k (by omega)
  have h2:=h _ (ag_ (d:=G0) (show k<l.length by omega))
  have:=oe_ h2.1 h2.2.1
  rw[vj_ (by omega),List.length_append,List.length_append]
  simp only[List.length_cons,List.length_nil];omega
theorem fh_ (l:List Sg) (L c:Int):∀x∈di_ l L c,smS x:=fun x hx=>by
 unfold di_ at hx
 split at hx
 ·rename_i h;exact apr_ h (List.mem_filter.1 hx).1
 cases hx
theorem acp_ (l:List Sg) (L c:Int):(di_ l L c).length≤l.length:=by
 unfold di_
 split
 ·exact List.length_filter_le _ _
 simp
theorem adr_ {l:List Sg} {L c:Int} {x:Sg}:∀ {k:Nat},k≤l.length→lp_ l L c k=some x→x∈l
 |0,_,h=>by cases h
 |k+1,hk,h=>by
  rw[lp_]at h
  split at h
  ·cases h;exact ag_ (by omega)
  exact adr_ (k:=k) (by omega) h
theorem m7_ (l:List Sg) (L c:Int):smI (lkL (g3_ l L c))∧smI (lkC (g3_ l L c)):=by
 unfold g3_
 split
 ·rename_i h
  cases e:p0_ l L c with
  |none=>simp[lkL,lkC,smI]
  |some x=>exact(apr_ h (adr_ (Nat.le_refl _) e)).2.2
 simp[lkL,lkC,smI]
theorem abe_ {l:List Sg} {k:Nat} (h:k<l.length):(toR l).getD k []=[.i .i64 (l.getD k G0).1,.i .i64 (l.getD k G0).2.1]:=by
 simp[toR,List.getD_eq_getElem?_getD,List.getElem?_eq_getElem h]
attribute [local go_sem] a3_ bl_ cf_ ka_ ik_ in
theorem ajo_ (b:List Pg) (w:Str) (L c:Int) (hs:∀p∈b,pgB p) (hl:b.length≤2000000):ACall En 60 [.sl false (pgR b),.s w,.ag [.i .i64 L,.i .i64 c]] [] [.s (h5_ b w L c)] []:=by
 have h1:=kc_ b
 have h2:=acp_ (a6_ b) L c
 refine aa_ [] Tryz.func60 Tryz.ntmps60 fun C=>?_
 refine .seq (.rg [] ?_)
 refine .seq (.seq (.rg [] ?_))
 refine .cB (fun h13=>?_) fun h13=>?_
 ·refine .seq (.rgD [ab_ (mp_ b hs hl),ab_ (ais_ (a6_ b) L c (by omega))] ?_)
  refine .seq (.seq (.rg [] ?_))
  refine .cB (fun h22=>?_) fun h22=>?_
  ·refine .seq (.rg [] ?_)
   refine .ret ⟨.inr rfl,Out.pP Tryz.results60 ?_⟩;simp only[Bool.not_eq_true',Option.isSome_eq_false_iff,Option.isNone_iff_eq_none]at h22;unfold h5_;rw[if_pos (by simpa using h13),h22]
  refine .skip (.seq (.rg [ab_ (afv_ (lkL (g3_ (a6_ b) L c)) (lkC (g3_ (a6_ b) L c)) (m7_ _ _ _).1 (m7_ _ _ _).2)] ?_))
  refine .ret ⟨.inr rfl,Out.pP Tryz.results60 ?_⟩;have e:=h22;simp only[Bool.not_eq_false']at e;obtain⟨x,hx⟩:=Option.isSome_iff_exists.1 e;unfold h5_;rw[if_pos (by simpa using h13),hx];rfl
 refine .skip (.seq (.rgD [ab_ (mp_ b hs hl),ab_ (aj3_ (a6_ b) L c (by omega))] ?_))
 refine .seq (.rg [] ?_)
 refine .seq (.seq (.rg [] ?_))
 refine .block (.loopK (fun k:Nat=>⟨[.no,.no,.no,.no,.no,.no,.no,.no,.no,.sl false (toR (di_ (a6_ b) L c)),.s (xl_ (di_ (a6_ b) L c) k),.i .i64 k,.no,.no,.no,.no,.no,.no,.no,.no,.no,.no,.no,.no,.no,.no,.no,.no,.no,.no,.no,.no,.no,.no,.no,.no,.no,.no,.no,.no,.no,.no,.no,.no],ae_ [],us []⟩) (fun k:Nat=>k≤(di_ (a6_ b) L c).length) (fun k:Nat=>(di_ (a6_ b) L c).length - k) (0) ?_ ?_ (fun k hI=>?_))
 ·exact Nat.zero_le _
 ·refine Can.wh ?_;rfl
 refine .seq (.seq (.rg [] ?_))
 refine .cB (fun h32=>?_) fun h32=>?_
 ·refine .skip (.seq (.block (.rgo [a0_ (k<(di_ (a6_ b) L c).length) (fun h=>afv_ ((di_ (a6_ b) L c).getD k G0).1 ((di_ (a6_ b) L c).getD k G0).2.1 (fh_ _ _ _ _ (ag_ h)).1 (fh_ _ _ _ _ (ag_ h)).2.1)] ?_ ?_ (h:=by simp only[go_sem,seval,abe_ (show k<(di_ (a6_ b) L c).length by simpa using h32)];rfl))))
  ·simp at h32;have:=mt_ (fh_ (a6_ b) L c) k (by omega);have:=oe_ (fh_ _ _ _ _ (ag_ (d:=G0) h32)).1 (fh_ _ _ _ _ (ag_ (d:=G0) h32)).2.1;simp only[List.length_append,List.length_cons,List.length_nil];omega
  refine .rg [] ?_
  refine⟨k+1,?_,?_,?_⟩
  ·simp at h32;omega
  ·simp at h32;omega
  refine Can.wh ?_;simp at h32;rw[vj_ h32,ac_ (by omega) (by omega)];exact⟨rfl,rfl⟩
 refine .exit (.seq (.rgo [] ?_ ?_))
 ·have:=mt_ (fh_ (a6_ b) L c) k hI;omega
 refine .ret ⟨.inr rfl,Out.pP Tryz.results60 ?_⟩;simp only[decide_eq_false_iff_not]at h32;unfold h5_;rw[if_neg (by simpa using h13)];unfold xl_;rw[List.take_of_length_le (by omega)]
attribute [local go_sem] a3_ c3_ al_ in
theorem an8_ (b:List Pg) (w:Str) (hs:∀p∈b,pgB p) (hl:b.length≤2000000):ACall En 69 [.sl false (pgR b),.s w] [] [.s (zt_ b w)] []:=by
 have h1:=my_ b
 have sm:p5_ (prL (bc_ b))=true:=by unfold prL;split;exact jq_ _;rfl
 have hn:(prL (bc_ b)).length≤1000000:=by
  unfold prL;split
  ·have:=e5_ (bc_ b);simp;omega
  simp
 have h3:=r2_ (prL (bc_ b))
 have h4:=uo_ (prL (bc_ b))
 have h5:=e8_ h4
 refine aa_ [] Tryz.func69 Tryz.ntmps69 fun C=>?_
 refine .seq (.rg [] ?_)
 refine .seq (.rg [ab_ (s4_ b hs hl),ab_ (ae9_ (bc_ b) (by omega))] ?_)
 refine .seq (.seq (.rg [] ?_))
 refine .cB (fun h14=>?_) fun h14=>?_
 ·refine .seq (.rg [] ?_)
  refine .ret ⟨.inr rfl,Out.pP Tryz.results69 ?_⟩;simp only[Bool.not_eq_true']at h14;unfold zt_;rw[h14];rfl
 refine .skip (.seq (.seq (.rg [] ?_)))
 refine .cB (fun h16=>?_) fun h16=>?_
 ·refine .seq (.rgo [ab_ (afd_ (prL (bc_ b)) sm (by omega)),ab_ (hv_ (g0_ (prL (bc_ b))) (by unfold smI at h4;omega) (by unfold smI at h4;omega))] ?_ ?_)
  ·(omega)
  refine .ret ⟨.inr rfl,Out.pP Tryz.results69 ?_⟩;simp only[Bool.not_eq_false']at h14;unfold zt_;rw[h14,if_pos rfl,if_pos (by simpa using h16)];simp[jt_]
 refine .skip (.seq (.rg [ab_ (ajd_ (prL (bc_ b)) sm (by omega)),ab_ (aeo_ (f5_ (prL (bc_ b))).1 (f5_ (prL (bc_ b))).2 (ab6_ _) (by omega))] ?_))
 refine .ret ⟨.inr rfl,Out.pP Tryz.results69 ?_⟩;simp only[Bool.not_eq_false']at h14;unfold zt_;rw[h14,if_pos rfl,if_neg (by simpa using h16)]
end
section
theorem as8_ {w:List Str} (h:g4_ w=true):a8_ (w.getD 1 [])=true:=by unfold g4_ at h;simp only[Bool.and_eq_true]at h;exact h.2
theorem a6f_ {w:List Str} (h:g4_ w=true):1<w.length:=by unfold g4_ at h;simp only[Bool.and_eq_true,decide_eq_true_eq]at h;exact h.1
theorem atp_ {w:List Str} (h:1<w.length):g4_ w=a8_ (w.getD 1 []):=by unfold g4_;rw[decide_eq_true h,Bool.true_and]
theorem auo_ {w:List Str} (h:1<w.length):nums [w.getD 1 []]=pr_ w:=by
 unfold pr_;rw[atp_ h];simp[nums]
theorem axn_ {w:List Str} (h:1<w.length):((ai_ w).take 2).drop 1=ai_ [w.getD 1 []]:=by
 match w,h with
 |a::c::r,_=>rfl
attribute [local go_sem] a3_ bl_ af_ ah_ al_ a2_ in
theorem am4_ (b:List Pg) (w:List Str) (hs:∀p∈b,pgB p) (hl:b.length≤2000000) (hw:kf_ w≤100000) (h0:0<w.length) (hk:ib_ (w.getD 0 [])):ACall En 32 [.sl false (pgR b),.sl false (ai_ w)] [] [.sl false (pgR (bw_ b w).1),.s (bw_ b w).2] []:=by
 have h1:=gu_ w
 have h2:=fun k=>ra_ w k
 have hv:a8_ (w.getD 1 [])=true→am_ (w.getD 1 [])≤1000000:=fun h=>(by unfold a8_ at h;simp only[Bool.and_eq_true,decide_eq_true_eq]at h;exact h.1)
 refine aa_ [] Tryz.func32 Tryz.ntmps32 fun C=>?_
 refine .seq (.rg [] ?_)
 refine .seq (.rg [] ?_)
 refine .seq (.rg [] ?_)
 refine .seq (.rg [] ?_)
 refine .seqJ (fun u:Unit=>⟨[.sl false (pgR b),.sl false (ai_ w),.no,.no,.no,.no,.sl false (pgR b),.b (g4_ w),.sl false (inR (pr_ w)),.no,.no,.no,.no,.no,.no,.no,.no,.no,.no,.no,.no,.no,.no,.no,.no,.no,.no,.no,.no,.no,.no,.no,.no,.no,.no,.no,.no,.no,.no,.no,.no,.no,.no,.no,.no,.no,.no,.no,.no,.no,.no,.no,.no,.no,.no,.no,.no,.no,.no,.no,.no,.no,.no,.no,.no,.no,.no,.no,.no,.no,.no,.no,.no,.no,.no,.no,.no,.no,.no,.no,.no,.no,.no,.no,.no],ae_ [],us []⟩) (fun u:Unit=>True) ?_ (fun u hJ=>?_)
 ·refine .seq (.rg [] ?_)
  refine .cB (fun h13=>?_) fun h13=>?_
  ·refine .rgo [a0_ (1<w.length) (fun h=>zi_ [w.getD 1 []] (by simp) (fun x hx=>by simp only[List.mem_singleton]at hx;subst hx;have:=zr_ w 1;omega))] ?_ ?_
   ·simp only[decide_eq_true_eq]at h13;have h:1<w.length:=(by omega);refine⟨⟨by first|omega|(simp;omega),.inr fun r hr=>by obtain⟨_,_,rfl⟩:=List.mem_map.1 hr;rfl⟩,?_,h⟩;rw[axn_ h];exact ad_ _
   refine Exists.intro (()) ⟨?_,?_⟩
   ·trivial
   refine Can.wh ?_;(have h:1<w.length:=(by simp only[decide_eq_true_eq]at h13;omega);rw[atp_ h,auo_ h];exact⟨rfl,ad_ _⟩)
  refine .skip ?_
  refine Exists.intro (()) ⟨?_,?_⟩
  ·trivial
  refine Can.wh ?_;(have e:g4_ w=false:=(by unfold g4_;rw[decide_eq_false (by simp only[decide_eq_false_iff_not]at h13;omega)];rfl);unfold pr_;rw[e];exact⟨rfl,by simp[inR,ler]⟩)
 refine .seqJ (fun p:List Pg × Bool=>⟨[.sl false (pgR b),.no,.no,.no,.no,.no,.sl false (pgR p.1),.b p.2,.no,.no,.no,.no,.no,.no,.no,.no,.no,.no,.no,.no,.no,.no,.no,.no,.no,.no,.no,.no,.no,.no,.no,.no,.no,.no,.no,.no,.no,.no,.no,.no,.no,.no,.no,.no,.no,.no,.no,.no,.no,.no,.no,.no,.no,.no,.no,.no,.no,.no,.no,.no,.no,.no,.no,.no,.no,.no,.no,.no,.no,.no,.no,.no,.no,.no,.no,.no,.no,.no,.no,.no,.no,.no,.no,.no,.no],ae_ [],us []⟩) (fun p:List Pg × Bool=>p=lm_ b w∧(w.getD 0 []=[97,100,100]∨g4_ w=true∧(w.getD 0 []=[112,117,116]∨w.getD 0 []=[105,110]∨w.length=2))) ?_ (fun p hJ=>?_)
 ·refine .block (.seq (.rgo [] ?_ ?_ (h:=by simp only[go_sem,seval,an_ h0];rfl)))
  ·((simp;omega))
  refine .cB (fun h28=>?_) fun h28=>?_
  ·refine .rg [ab_ (qq_ w 1 (by omega) (by decide)),ab_ (u2_ b b.length (ap_ (w.drop 1)) hs hl (by omega) (by omega) (by have:=h2 1;omega))] ?_
   refine⟨lm_ b w,?_,?_⟩
   ·exact⟨rfl,.inl (by simpa using h28)⟩
   refine Can.wh ?_;unfold lm_;first|(rw[if_pos (by simpa using h28)];exact⟨ad_ _,rfl⟩)|(rw[if_neg (by simpa using h28),if_pos (by simpa using h46)];exact⟨ad_ _,rfl⟩)|(rw[if_neg (by simpa using h28),if_neg (by simpa using h46),if_pos (by simpa using h61)];exact⟨ad_ _,rfl⟩)|(rw[if_neg (by simpa using h28),if_neg (by simpa using h46),if_neg (by simpa using h61)];exact⟨ad_ _,rfl⟩)
  refine .seq (.rg [] ?_)
  refine .cB (fun h42=>?_) fun h42=>?_
  ·refine .seq (.rg [] ?_)
   refine .ret ⟨.inr rfl,Out.pQ Tryz.results32 ?_⟩;rw[y4_ h0 hk (by simpa using h28) (.inl (by simpa using h42))];exact⟨ad_ _,rfl⟩
  refine .seq (.rgo [] ?_ ?_ (h:=by simp only[go_sem,seval,an_ h0];rfl))
  ·((simp;omega))
  refine .cB (fun h46=>?_) fun h46=>?_
  ·refine .rgDo [ab_ (qq_ w 2 (by omega) (by decide)),a0_ (a8_ (w.getD 1 [])=true) (fun h=>add_ b (am_ (w.getD 1 [])) (ap_ (w.drop 2)) hs hl (by omega) (by have:=hv h;omega) (by have:=h2 2;omega))] ?_ ?_ (h:=by simp only[go_sem,seval,show pr_ w=[(am_ (w.getD 1 []):Int)]from ur_ (by simpa using h42),eo_,ho_];rfl)
   ·exact as8_ (by simpa using h42)
   refine⟨lm_ b w,?_,?_⟩
   ·exact⟨rfl,.inr ⟨by simpa using h42,.inl (by simpa using h46)⟩⟩
   refine Can.wh ?_;unfold lm_;first|(rw[if_pos (by simpa using h28)];exact⟨ad_ _,rfl⟩)|(rw[if_neg (by simpa using h28),if_pos (by simpa using h46)];exact⟨ad_ _,rfl⟩)|(rw[if_neg (by simpa using h28),if_neg (by simpa using h46),if_pos (by simpa using h61)];exact⟨ad_ _,rfl⟩)|(rw[if_neg (by simpa using h28),if_neg (by simpa using h46),if_neg (by simpa using h61)];exact⟨ad_ _,rfl⟩)
  refine .seq (.rgo [] ?_ ?_ (h:=by simp only[go_sem,seval,an_ h0];rfl))
  ·((simp;omega))
  refine .cB (fun h61=>?_) fun h61=>?_
  ·refine .rgDo [ab_ (qq_ w 2 (by omega) (by decide)),a0_ (a8_ (w.getD 1 [])=true) (fun h=>u2_ b (am_ (w.getD 1 [])) (ap_ (w.drop 2)) hs hl (by omega) (by have:=hv h;omega) (by have:=h2 2;omega))] ?_ ?_ (h:=by simp only[go_sem,seval,show pr_ w=[(am_ (w.getD 1 []):Int)]from ur_ (by simpa using h42),eo_,ho_];rfl)
   ·exact as8_ (by simpa using h42)
   refine⟨lm_ b w,?_,?_⟩
   ·exact⟨rfl,.inr ⟨by simpa using h42,.inr (.inl (by simpa using h61))⟩⟩
   refine Can.wh ?_;unfold lm_;first|(rw[if_pos (by simpa using h28)];exact⟨ad_ _,rfl⟩)|(rw[if_neg (by simpa using h28),if_pos (by simpa using h46)];exact⟨ad_ _,rfl⟩)|(rw[if_neg (by simpa using h28),if_neg (by simpa using h46),if_pos (by simpa using h61)];exact⟨ad_ _,rfl⟩)|(rw[if_neg (by simpa using h28),if_neg (by simpa using h46),if_neg (by simpa using h61)];exact⟨ad_ _,rfl⟩)
  refine .seq (.rg [] ?_)
  refine .cB (fun h76=>?_) fun h76=>?_
  ·refine .seq (.rg [] ?_)
   refine .ret ⟨.inr rfl,Out.pQ Tryz.results32 ?_⟩;rw[y4_ h0 hk (by simpa using h28) (.inr ⟨((hk.resolve_left (by simpa using h28)).resolve_left (by simpa using h46)).resolve_left (by simpa using h61),by simp at h76;omega⟩)];exact⟨ad_ _,rfl⟩
  refine .rgo [a0_ (a8_ (w.getD 1 [])=true) (fun h=>ago_ b (am_ (w.getD 1 [])) hs hl (by omega) (by have:=hv h;omega))] ?_ ?_ (h:=by simp only[go_sem,seval,show pr_ w=[(am_ (w.getD 1 []):Int)]from ur_ (by simpa using h42),eo_,ho_];rfl)
  ·exact as8_ (by simpa using h42)
  refine⟨lm_ b w,?_,?_⟩
  ·exact⟨rfl,.inr ⟨by simpa using h42,.inr (.inr (by have:=a6f_ (show g4_ w=true by simpa using h42);simp at h76;omega))⟩⟩
  refine Can.wh ?_;unfold lm_;first|(rw[if_pos (by simpa using h28)];exact⟨ad_ _,rfl⟩)|(rw[if_neg (by simpa using h28),if_pos (by simpa using h46)];exact⟨ad_ _,rfl⟩)|(rw[if_neg (by simpa using h28),if_neg (by simpa using h46),if_pos (by simpa using h61)];exact⟨ad_ _,rfl⟩)|(rw[if_neg (by simpa using h28),if_neg (by simpa using h46),if_neg (by simpa using h61)];exact⟨ad_ _,rfl⟩)
 refine .seq (.seq (.rg [] ?_))
 refine .cB (fun h82=>?_) fun h82=>?_
 ·refine .seq (.rg [] ?_)
  refine .ret ⟨.inr rfl,Out.pQ Tryz.results32 ?_⟩;simp only[Bool.not_eq_true']at h82;rw[xv_ hk hJ.2,←hJ.1];unfold gg_;rw[h82];exact⟨ad_ _,rfl⟩
 refine .skip (.seq (.rg [] ?_))
 refine .ret ⟨.inr rfl,Out.pQ Tryz.results32 ?_⟩;simp only[Bool.not_eq_false']at h82;rw[xv_ hk hJ.2,←hJ.1];unfold gg_;rw[if_pos h82];exact⟨ad_ _,rfl⟩
theorem yl_ {w:List Str} (h:((w.drop 1).all a8_&&((nums (w.drop 1)).length:Int)==2&&(w.getD 0 []==[108,111,111,107]||w.getD 0 []==[98,97,99,107]))=true):ol_ w∧nums (w.drop 1)=[(am_ (w.getD 1 []):Int),(am_ (w.getD 2 []):Int)]:=by
 simp only[Bool.and_eq_true,Bool.or_eq_true,beq_iff_eq]at h
 obtain⟨⟨h1,h2⟩,h3⟩:=h
 have e:nums (w.drop 1)=(w.drop 1).map fun w=>(am_ w:Int):=by unfold nums;rw[if_pos h1]
 rw[e,List.length_map,List.length_drop]at h2
 match w,h2,h1,h3,e with
 |[a,c,d],_,h1,h3,e=> 
  simp only[List.drop_succ_cons,List.drop_zero,List.all_cons,List.all_nil,Bool.and_true,Bool.and_eq_true]at h1
  exact⟨⟨rfl,h1.1,h1.2,h3⟩,e⟩
theorem jo_ {w:List Str} (h:((w.drop 1).all a8_&&((nums (w.drop 1)).length:Int)==2&&(w.getD 0 []==[108,111,111,107]||w.getD 0 []==[98,97,99,107]))=false):¬ol_ w:=fun⟨h1,h2,h3,h4⟩=>by
 match w,h1,h2,h3,h4,h with
 |[a,c,d],_,h2,h3,h4,h=>
  have q:[c,d].all a8_=true:=by
   simp only[List.all_cons,List.all_nil,Bool.and_true,Bool.and_eq_true];exact⟨h2,h3⟩
  have e:nums [c,d]=[(am_ c:Int),(am_ d:Int)]:=by unfold nums;rw[if_pos q];rfl
  simp only[List.drop_succ_cons,List.drop_zero,q,e]at h
  rcases h4 with h4|h4<;>simp only[List.getD_cons_zero]at h4 h<;>rw[h4]at h<;>simp at h
theorem ao2_ {b:List Pg} {w:Str} (h:w=[116,121,112,101]∨w=[114,117,110]):zt_ b w=if prR (bc_ b)then(if w=[114,117,110]then ou_ (f5_ (prL (bc_ b)))else jt_ [g0_ (prL (bc_ b))])else [98,97,100,10]:=by
 unfold zt_
 rcases h with rfl|rfl<;>split<;>rfl
attribute [local go_sem] a3_ bl_ af_ ah_ al_ a2_ cf_ in
theorem arl_ (b:List Pg) (w:List Str) (hs:∀p∈b,pgB p) (hl:b.length≤2000000) (hw:kf_ w≤100000) (h0:0<w.length) (hk:¬ib_ (w.getD 0 [])):ACall En 33 [.sl false (pgR b),.sl false (ai_ w)] [] [.s (bw_ b w).2] []:=by
 have h1:=gu_ w
 have n1:(nums (w.drop 1)).length≤100000:=by unfold nums;split;(rw[List.length_map,List.length_drop];omega);simp
 have hX:decide (((nums (w.drop 1)).length:Int)=2)=decide ((nums (w.drop 1)).length=2):=decide_eq_decide.2 (by omega)
 have t1:=my_ b
 have t2:=qr_ b
 have t3:=wh_ b
 have t4:=kc_ b
 have t5:=gs_ (l9_ b)
 have t6:=aad_ (a6_ b)
 have t7:=r0_ (d5_ b)
 refine aa_ [] Tryz.func33 Tryz.ntmps33 fun C=>?_
 refine .seq (.rg [] ?_)
 refine .seq (.rgo [ab_ (zi_ (w.drop 1) (by rw[List.length_drop];omega) (fun x hx=>by have:=mh_ (List.mem_of_mem_drop hx);omega))] ?_ ?_)
 ·refine⟨⟨by omega,.inr fun r hr=>by obtain⟨_,_,rfl⟩:=List.mem_map.1 hr;rfl⟩,?_⟩;rw[List.take_of_length_le (by rw[af_];exact Nat.le_refl _),show(ai_ w).drop 1=ai_ (w.drop 1) by simp[ai_,List.map_drop]];exact ad_ _
 refine .seq (.block (.seq (.rgo [] ?_ ?_ (h:=by simp only[go_sem,seval,an_ h0];rfl))))
 ·exact⟨⟨fun h=>⟨h,by omega⟩,fun h=>⟨h,by omega⟩⟩,fun h=>⟨h,fun h2=>by rw[h,h2];rfl⟩⟩
 refine .cB (fun h13=>?_) fun h13=>?_
 ·refine .seq (.rgDo [ab_ (ajo_ b (w.getD 0 []) (am_ (w.getD 1 [])) (am_ (w.getD 2 [])) hs hl)] ?_ ?_ (h:=by simp only[go_sem,seval,an_ h0,show nums (w.drop 1)=[(am_ (w.getD 1 []):Int),(am_ (w.getD 2 []):Int)]from(yl_ h13).2,eo_,ho_];rfl))
  ·exact⟨by omega,by decide⟩
  refine .ret ⟨.inr rfl,Out.pP Tryz.results33 ?_⟩;rw[ug_ (yl_ h13).1]
 refine .seq (.rg [] ?_)
 refine .cB (fun h44=>?_) fun h44=>?_
 ·refine .seq (.rg [] ?_)
  refine .ret ⟨.inr rfl,Out.pP Tryz.results33 ?_⟩;rw[gr_ hk (jo_ h13),if_neg (by simp at h44;omega)];rfl
 refine .seq (.rgo [] ?_ ?_ (h:=by simp only[go_sem,seval,an_ h0];rfl))
 ·(omega)
 refine .cB (fun h48=>?_) fun h48=>?_
 ·refine .seq (.rgo [ab_ (s4_ b hs hl)] ?_ ?_)
  ·(omega)
  refine .ret ⟨.inr rfl,Out.pP Tryz.results33 ?_⟩;rw[gr_ hk (jo_ h13),if_pos (by simp at h44;omega)];unfold dj_;rw[if_pos (by simpa using h48)]
 refine .seq (.rgo [] ?_ ?_ (h:=by simp only[go_sem,seval,an_ h0];rfl))
 ·(omega)
 refine .cB (fun h56=>?_) fun h56=>?_
 ·refine .seq (.rgo [ab_ (sn_ b hs hl)] ?_ ?_)
  ·(omega)
  refine .ret ⟨.inr rfl,Out.pP Tryz.results33 ?_⟩;rw[gr_ hk (jo_ h13),if_pos (by simp at h44;omega)];unfold dj_;rw[if_neg (by simpa using h48),if_pos (by simpa using h56)]
 refine .seq (.rgo [] ?_ ?_ (h:=by simp only[go_sem,seval,an_ h0];rfl))
 ·(omega)
 refine .cB (fun h64=>?_) fun h64=>?_
 ·refine .seq (.rgo [ab_ (mp_ b hs hl),ab_ (aiz_ (a6_ b) (by omega))] ?_ ?_)
  ·(omega)
  refine .ret ⟨.inr rfl,Out.pP Tryz.results33 ?_⟩;rw[gr_ hk (jo_ h13),if_pos (by simp at h44;omega)];unfold dj_;rw[if_neg (by simpa using h48),if_neg (by simpa using h56),if_pos (by simpa using h64)]
 refine .seq (.rgo [] ?_ ?_ (h:=by simp only[go_sem,seval,an_ h0];rfl))
 ·(omega)
 refine .cB (fun h73=>?_) fun h73=>?_
 ·refine .seq (.rgo [ab_ (ahq_ b hs hl),ab_ (rj_ (ky_ b) (l9_ b) (by omega))] ?_ ?_)
  ·(omega)
  refine .ret ⟨.inr rfl,Out.pP Tryz.results33 ?_⟩;rw[gr_ hk (jo_ h13),if_pos (by simp at h44;omega)];unfold dj_;rw[if_neg (by simpa using h48),if_neg (by simpa using h56),if_neg (by simpa using h64),if_pos (by simpa using h73)]
 refine .seq (.rgo [] ?_ ?_ (h:=by simp only[go_sem,seval,an_ h0];rfl))
 ·(omega)
 refine .cB (fun h82=>?_) fun h82=>?_
 ·refine .seq (.rg [ab_ (sn_ b hs hl),ab_ (aio_ (d5_ b) (by omega)),ab_ (aeo_ (hm_ (d5_ b)).1 (hm_ (d5_ b)).2 (acs_ _) (by omega))] ?_)
  refine .ret ⟨.inr rfl,Out.pP Tryz.results33 ?_⟩;rw[gr_ hk (jo_ h13),if_pos (by simp at h44;omega)];unfold dj_;rw[if_neg (by simpa using h48),if_neg (by simpa using h56),if_neg (by simpa using h64),if_neg (by simpa using h73),if_pos (by simpa using h82)]
 refine .seq (.rgo [] ?_ ?_ (h:=by simp only[go_sem,seval,an_ h0];rfl))
 ·exact⟨⟨by omega,fun h=>⟨h,by omega⟩⟩,fun h=>by rw[h];rfl⟩
 refine .cB (fun h93=>?_) fun h93=>?_
 ·refine .seq (.rgo [ab_ (an8_ b (w.getD 0 []) hs hl)] ?_ ?_ (h:=by simp only[go_sem,seval,an_ h0];rfl))
  ·(omega)
  refine .ret ⟨.inr rfl,Out.pP Tryz.results33 ?_⟩;rw[gr_ hk (jo_ h13),if_pos (by simp at h44;omega)];unfold dj_;rw[if_neg (by simpa using h48),if_neg (by simpa using h56),if_neg (by simpa using h64),if_neg (by simpa using h73),if_neg (by simpa using h82),if_pos (by simpa using h93),ao2_ (by simpa using h93)]
 refine .skip (.seq (.rg [] ?_))
 refine .ret ⟨.inr rfl,Out.pP Tryz.results33 ?_⟩;rw[gr_ hk (jo_ h13),if_pos (by simp at h44;omega)];unfold dj_;rw[if_neg (by simpa using h48),if_neg (by simpa using h56),if_neg (by simpa using h64),if_neg (by simpa using h73),if_neg (by simpa using h82),if_neg (by simpa using h93)]
end
section
theorem pa_ {b:List Pg} (h:bi_ b=true):(∀p∈b,pgB p)∧b.length≤16:=by
 refine⟨fun p hp=>?_,(b5_ h).2.1⟩
 obtain⟨h1,h2⟩:=kt_ (gj_ h p hp)
 rw[h2]
 exact abf_ (by have:=(is_ h1).2;omega)
theorem aeq_ {b x:List Pg} {ok:Bool} (hb:bi_ b=true) (hx:ok=true→bi_ x=true):bi_ (gg_ b x ok).1=true:=by
 unfold gg_;cases ok with
 |true=>exact hx rfl
 |false=>exact hb
theorem auq_ {b:List Pg} (w:List Str) (hb:bi_ b=true):bi_ (bw_ b w).1=true:=by
 unfold bw_
 repeat(split;first|exact aeq_ hb ah2_|exact hb|skip)
 all_goals first|exact aeq_ hb ah2_|exact hb
theorem aj8_ {r:List Int × Bool} (h:smL r.1) (hl:r.1.length≤100):(ou_ r).length≤200000000:=by
 have:=gs_ h
 unfold ou_
 rw[List.length_append]
 split<;>simp only[List.length_cons,List.length_nil]<;>omega
theorem ast_ (b:List Pg) (w:Str):(dj_ b w).length≤10000000000:=by
 have t1:=my_ b
 have t2:=qr_ b
 have t3:=wh_ b
 have t5:=gs_ (l9_ b)
 have t6:=aad_ (a6_ b)
 have t7:=aj8_ (acs_ (d5_ b)) (by have:=r0_ (d5_ b);omega)
 have t8:=aj8_ (ab6_ (prL (bc_ b))) (by have:=r2_ (prL (bc_ b));omega)
 have t9:=gs_ (l:=[g0_ (prL (bc_ b))]) fun n hn=>by simp only[List.mem_singleton]at hn;subst hn;exact uo_ _
 unfold dj_
 repeat' split
 all_goals(simp only[List.length_append,List.length_cons,List.length_nil]at *;omega)
theorem afm_:bi_ (f4_ [])=true:=akx_ (by decide)
def gk (L:List Str) (k:Nat):List Pg × Str × Bool:=goD (L.take k) 0 (f4_ []) []
theorem ap7_ {L:List Str} {k:Nat} (h:L.length≤k):gk L k=goD L 0 (f4_ []) []:=by unfold gk;rw[List.take_of_length_le h]
theorem ajk_ {L:List Str} {k:Nat} (hk:k<L.length) (ho:(gk L k).2.2=true):gk L (k+1)=goD [L.getD k []] k (gk L k).1 (gk L k).2.1:=by
 have e:L.take (k+1)=L.take k++[L.getD k []]:=by
  rw[List.take_add_one,List.getElem?_eq_getElem hk,List.getD_eq_getElem?_getD,List.getElem?_eq_getElem hk];rfl
 unfold gk at ho ⊢
 rw[e,lh_,if_pos ho,List.length_take,Nat.zero_add,show min k L.length=k by omega]
theorem abl_ {L:List Str} {k:Nat} (hk:k<L.length) (ho:(gk L k).2.2=true) (hw:d2_ (L.getD k [])=[]):gk L (k+1)=gk L k:=by
 rw[ajk_ hk ho]
 simp only[goD]
 rw[if_pos hw,←ho]
theorem aam_ {L:List Str} {k:Nat} (hk:k<L.length) (ho:(gk L k).2.2=true) (hw:d2_ (L.getD k [])≠[]) (hf:¬(200≤k∨60000<(gk L k).2.1.length)) :
  gk L (k+1)=((bw_ (gk L k).1 (d2_ (L.getD k []))).1,(gk L k).2.1++(bw_ (gk L k).1 (d2_ (L.getD k []))).2,true):=by
 rw[ajk_ hk ho]
 simp only[goD]
 rw[if_neg hw,if_neg hf]
theorem alb_ {L:List Str} {k:Nat} (hk:k<L.length) (ho:(gk L k).2.2=true) (hw:d2_ (L.getD k [])≠[]) (hf:200≤k∨60000<(gk L k).2.1.length):(goD L 0 (f4_ []) []).2.1=(gk L k).2.1++[102,117,108,108,10]:=by
 have h1:gk L (k+1)=((gk L k).1,(gk L k).2.1++[102,117,108,108,10],false):=by
  rw[ajk_ hk ho]
  simp only[goD]
  rw[if_neg hw,if_pos hf]
 have e:goD L 0 (f4_ []) []=gk L (k+1):=by
  conv=>lhs;rw[←List.take_append_drop (k+1) L]
  rw[lh_]
  show(if (gk L (k+1)).2.2 then _ else gk L (k+1))=_
  rw[h1];rfl
 rw[e,h1]
end
section
theorem a1j_ (w:Str):(w==[97,100,100]||w==[112,117,116]||w==[105,110]||w==[111,117,116])=decide (ib_ w):=by
 rw[Bool.eq_iff_iff];simp only[Bool.or_eq_true,beq_iff_eq,decide_eq_true_eq,or_assoc];rfl
theorem am1_ {b:List Pg} {w:List Str} (hk:¬ib_ (w.getD 0 [])):(bw_ b w).1=b:=by
 by_cases h:ol_ w
 ·rw[ug_ h]
 rw[gr_ hk h]
attribute [local go_sem] a3_ bl_ af_ ah_ in
theorem aon_ (b:List Pg) (w:List Str) (hs:∀p∈b,pgB p) (hl:b.length≤2000000) (hw:kf_ w≤100000) (h0:0<w.length):ACall En 11 [.sl false (pgR b),.sl false (ai_ w)] [] [.sl false (pgR (bw_ b w).1),.s (bw_ b w).2] []:=by
 have hb:=a1j_ (w.getD 0 [])
 refine aa_ [] Tryz.func11 Tryz.ntmps11 fun C=>?_
 refine .seq (.rg [] ?_ (h:=by simp only[go_sem,seval,hb];rfl))
 refine .seq (.seq (.rgo [] ?_ ?_ (h:=by simp only[go_sem,seval,hb,an_ h0];rfl)))
 ·exact⟨⟨⟨⟨⟨⟨by omega,fun h=>⟨h,by omega⟩⟩,fun h=>by rw[h];rfl⟩,fun h=>⟨h,by omega⟩⟩,fun h=>by rw[h];rfl⟩,fun h=>⟨h,by omega⟩⟩,fun h=>by rw[h];rfl⟩
 refine .cB (fun h27=>?_) (fun h27=>?_) (hc:=by simp only[go_sem,seval,hb];rfl) (hp:=by simp only[go_sem,seval,hb])
 ·refine .seq (.rgo [a0_ (ib_ (w.getD 0 [])) (fun h=>am4_ b w hs hl hw h0 h)] ?_ ?_ (h:=by simp only[go_sem,seval,hb];rfl))
  ·simpa using h27
  refine .ret ⟨.inr rfl,?_⟩
  exact Out.pl (by simp only[Tryz.results11];rfl) (by simp only[ba_,go_sem,seval,hb]<;>(rfl)) (h1:=by simp only[a1_,bn_,go_sem,seval,hb]<;>(split<;>rfl)) (h3:=by simp only[go_sem,seval,hb])
 refine .skip (.seq (.rgo [a0_ (¬ib_ (w.getD 0 [])) (fun h=>arl_ b w hs hl hw h0 h)] ?_ ?_ (h:=by simp only[go_sem,seval,hb];rfl)))
 ·simpa using h27
 refine .ret ⟨.inr rfl,?_⟩
 exact Out.pl (by simp only[Tryz.results11];rfl) (by simp only[ba_,go_sem,seval,hb]<;>(rw[am1_ (by simpa using h27)])) (h1:=by simp only[a1_,bn_,go_sem,seval,hb]<;>(split<;>rfl)) (h3:=by simp only[go_sem,seval,hb])
theorem amx_ (b:List Pg) (w:Str) (L c:Int):(h5_ b w L c).length≤10000000000:=by
 have h1:=kc_ b
 have h2:=acp_ (a6_ b) L c
 have h3:=mt_ (fh_ (a6_ b) L c) _ (Nat.le_refl _)
 have h4:=m7_ (a6_ b) L c
 have h5:=oe_ h4.1 h4.2
 unfold h5_
 split
 ·split
  ·rename_i x hx
   rw[hx]at h5
   simp only[lkL,lkC]at h5
   simp only[List.length_append,List.length_cons,List.length_nil];omega
  decide
 unfold xl_ at h3
 rw[List.take_length]at h3
 rw[List.length_append];simp only[List.length_cons,List.length_nil];omega
theorem wx_ (b:List Pg) (w:List Str):(bw_ b w).2.length≤10000000000:=by
 have h1:=ast_ b (w.getD 0 [])
 have h2:=amx_ b (w.getD 0 []) (am_ (w.getD 1 [])) (am_ (w.getD 2 []))
 have h3:∀x ok,(gg_ b x ok).2.length≤10000000000:=fun x ok=>by unfold gg_;split<;>simp
 unfold bw_
 have h4:isWhat.length≤10000000000:=by decide
 repeat(split;first|exact h3 _ _|exact h1|exact h2|exact h4|skip)
 all_goals first|exact h3 _ _|exact h1|exact h2|exact h4
theorem ne0 {l:List Str} (h:((l.length:Int)==0)=false):l≠[]:=by rintro rfl;simp at h
theorem eq0 {l:List Str} (h:((l.length:Int)==0)=true):l=[]:=by simpa using h
theorem abr_ {k n:Nat} (h:(decide ((k:Int) ≥ 200)||decide ((n:Int) > 60000))=false):¬(200≤k∨60000<n):=by
 simp only[Bool.or_eq_false_iff,decide_eq_false_iff_not]at h;omega
theorem aso_ {k n:Nat} (h:(decide ((k:Int) ≥ 200)||decide ((n:Int) > 60000))=true):200≤k∨60000<n:=by
 simp only[Bool.or_eq_true,decide_eq_true_eq]at h;omega
def DkI (s:Str) (l:List Str) (k:Nat):Prop:=k≤l.length∧s.length≤20000∧(gk l k).2.2=true∧bi_ (gk l k).1=true∧(gk l k).2.1.length≤10000060000
theorem DkI.skip {s:Str} {l:List Str} {k:Nat} (h:DkI s l k) (hk:k<l.length) (hw:d2_ (l.getD k [])=[]):DkI s l (k+1):=by
 unfold DkI;rw[abl_ hk h.2.2.1 hw];exact⟨hk,h.2⟩
theorem DkI.step {s:Str} {l:List Str} {k:Nat} (h:DkI s l k) (hk:k<l.length) (hw:d2_ (l.getD k [])≠[]) (hf:¬(200≤k∨60000<(gk l k).2.1.length)):DkI s l (k+1):=by
 have:=wx_ (gk l k).1 (d2_ (l.getD k []))
 unfold DkI;rw[aam_ hk h.2.2.1 hw hf]
 exact⟨hk,h.2.1,rfl,auq_ _ h.2.2.2.1,by rw[List.length_append];omega⟩
attribute [local go_sem] a3_ af_ ah_ in
theorem wr_ (s:Str) (hs:s.length≤281474976710656):ACall En 5 [.s s] [] [.s (ds_ s)] []:=by
 have hc:s.length≤20000→(bx_ 10 s).length≤20001∧∀x∈bx_ 10 s,x.length≤20000:=fun h=>by
  have:=j7_ 10 s
  exact⟨by have:=gu_ (bx_ 10 s);omega,fun x hx=>by have:=mh_ hx;omega⟩
 have hd:ds_ s=if 20000<s.length then [108,111,110,103,10]else(goD (bx_ 10 s) 0 (f4_ []) []).2.1:=rfl
 have C0:=fun h:s.length≤20000=>xz_ 10 s (by omega)
 generalize bx_ 10 s=l at *
 refine aa_ [] Tryz.func5 Tryz.ntmps5 fun C=>?_
 refine .seq (.rg [] ?_)
 refine .seq (.seq (.rg [] ?_))
 refine .cB (fun h11=>?_) fun h11=>?_
 ·refine .seq (.rg [] ?_)
  refine .ret ⟨.inr rfl,Out.pP Tryz.results5 ?_⟩;simp only[decide_eq_true_eq]at h11;rw[hd,if_pos (by omega)]
 refine .skip (.seq (.rg [ab_ (apf_ [] (by decide))] ?_))
 refine .seq (.rgo [a0_ (s.length≤20000) C0] ?_ ?_)
 ·simp only[decide_eq_false_iff_not]at h11;omega
 refine .seq (.rg [] ?_)
 refine .seq (.seq (.rg [] ?_))
 refine .block (.loopK (fun k:Nat=>⟨[.no,.no,.no,.sl false (pgR (gk l k).1),.sl false (ai_ l),.s (gk l k).2.1,.i .i64 k,.no,.no,.no,.no,.no,.no,.no,.no,.no,.no,.no,.no,.no,.no,.no,.no,.no,.no,.no,.no,.no,.no,.no,.no,.no,.no,.no,.no,.no,.no,.no,.no,.no,.no,.no,.no,.no,.no,.no,.no,.no],ae_ [],us []⟩) (fun k:Nat=>DkI s l k) (fun k:Nat=>l.length - k) (0) ?_ ?_ (fun k hI=>?_))
 ·simp only[decide_eq_false_iff_not]at h11;exact⟨Nat.zero_le _,by omega,rfl,afm_,Nat.zero_le _⟩
 ·refine Can.wh ?_;exact⟨ad_ _,rfl⟩
 refine .seq (.seq (.rg [] ?_))
 refine .cB (fun h18=>?_) fun h18=>?_
 ·refine .skip (.seqJ (fun u:Unit=>⟨[.no,.no,.no,.sl false (pgR (gk l (k+1)).1),.sl false (ai_ l),.s (gk l (k+1)).2.1,.i .i64 k,.no,.no,.no,.no,.no,.no,.no,.no,.no,.no,.no,.no,.no,.no,.no,.no,.no,.no,.no,.no,.no,.no,.no,.no,.no,.no,.no,.no,.no,.no,.no,.no,.no,.no,.no,.no,.no,.no,.no,.no,.no],ae_ [],us []⟩) (fun u:Unit=>DkI s l (k+1)) ?_ (fun u hJ=>?_))
  ·refine .block (.seq (.rgo [a0_ (k<l.length∧s.length≤20000) (fun h=>ah8_ (l.getD k []) (by have:=(hc h.2).2 _ (ag_ (d:=[]) h.1);omega))] ?_ ?_ (h:=by simp only[go_sem,seval,an_ (show k<l.length by simpa using h18)];rfl)))
   ·simp at h18;exact⟨by omega,h18,hI.2.1⟩
   refine .seq (.seq (.rg [] ?_))
   refine .cB (fun h28=>?_) fun h28=>?_
   ·refine .exit ?_
    refine Exists.intro (()) ⟨?_,?_⟩
    ·exact hI.skip (by simpa using h18) (eq0 h28)
    refine Can.wh ?_;(rw[abl_ (by simpa using h18) hI.2.2.1 (eq0 h28)];exact⟨ad_ _,rfl⟩)
   refine .skip (.seq (.seq (.rg [] ?_)))
   refine .cB (fun h35=>?_) fun h35=>?_
   ·refine .seq (.rgo [] ?_ ?_)
    ·have:=hI.2.2.2.2;omega
    refine .ret ⟨.inr rfl,Out.pP Tryz.results5 ?_⟩;simp only[decide_eq_false_iff_not]at h11;rw[hd,if_neg (by omega),alb_ (by simpa using h18) hI.2.2.1 (ne0 h28) (aso_ h35)]
   refine .skip (.seq (.rg [] ?_))
   refine .seq (.rgo [a0_ (bi_ (gk l k).1=true∧d2_ (l.getD k [])≠[]∧k<l.length∧s.length≤20000) (fun h=>aon_ (gk l k).1 (d2_ (l.getD k [])) (pa_ h.1).1 (by have:=(pa_ h.1).2;omega) (by have:=zx_ (l.getD k []);have:=(hc h.2.2.2).2 _ (ag_ (d:=[]) h.2.2.1);omega) (List.length_pos_iff.2 h.2.1))] ?_ ?_)
   ·exact⟨hI.2.2.2.1,ne0 h28,by simpa using h18,hI.2.1⟩
   refine .rgo [] ?_ ?_
   ·have:=hI.2.2.2.2;have:=wx_ (gk l k).1 (d2_ (l.getD k []));omega
   refine Exists.intro (()) ⟨?_,?_⟩
   ·exact hI.step (by simpa using h18) (ne0 h28) (abr_ h35)
   refine Can.wh ?_;(rw[aam_ (by simpa using h18) hI.2.2.1 (ne0 h28) (abr_ h35)];exact⟨ad_ _,rfl⟩)
  refine .rg [] ?_
  refine⟨k+1,?_,?_,?_⟩
  ·exact hJ
  ·simp at h18;omega
  refine Can.wh ?_;have q:=hc hI.2.1;simp at h18;rw[ac_ (by omega) (by omega)];rfl
 refine .exit (.seq (.rg [] ?_))
 refine .ret ⟨.inr rfl,Out.pP Tryz.results5 ?_⟩;simp only[decide_eq_false_iff_not]at h11 h18;rw[hd,if_neg (by omega),←ap7_ (show l.length≤k by omega)]
end
section
attribute [local go_sem] capO az6_ a0i_ aw_ a5_ in
theorem a1q_ (n:Nat) (h0:0<n) (h1:n≤100000):ACall En 214 [.sl true [],.i .i64 n] [] [.ow 0 4 0 0] [⟨67,4,[]⟩]:=by
 have hw:IntKind.i64.wrap ((n:Int) - 0)=n:=by rw[ac_ (by omega) (by omega)];omega
 have hw0:IntKind.i64.wrap (0:Int)=0:=by rw[ac_ (by omega) (by omega)]
 refine aa_ [32] Tryz.func214 Tryz.ntmps214 fun C=>?_
 refine .seq (.rg [] ?_ (h:=by simp only[go_sem,seval,hw,hw0];rfl))
 refine .seq (.seq (.rg [] ?_ (h:=by simp only[go_sem,seval,hw,hw0];rfl)))
 refine .cB (fun h6=>?_) (fun h6=>?_) (hc:=by simp only[go_sem,seval,hw,hw0];rfl) (hp:=by simp only[go_sem,seval,hw,hw0])
 ·simp at h6;omega
 refine .skip (.seq (.seq (.rgSo [10] [capO En] ?_ ?_ (h:=by simp only[go_sem,seval,hw,hw0];rfl))))
 ·exact⟨_,_,_,_,_,_,rfl,by simp only[go_sem,seval];rfl,rfl⟩
 refine .seq (.rg [] ?_ (h:=by simp only[go_sem,seval,hw,hw0];rfl))
 refine .cB (fun h16=>?_) (fun h16=>?_) (hc:=by simp only[go_sem,seval,hw,hw0];rfl) (hp:=by simp only[go_sem,seval,hw,hw0])
 ·refine .rgSo [19,20,22] [capO En,az6_ En,a0i_ En 67 4 32 n] ?_ ?_ (h:=by simp only[go_sem,seval,hw,hw0];rfl)
  ·and_intros<;>first|exact⟨_,_,_,_,_,_,rfl,by simp only[go_sem,seval];rfl,rfl⟩|exact⟨_,_,_,_,_,_,_,rfl,by simp only[go_sem,seval];rfl,by decide,rfl,rfl⟩|exact⟨_,_,_,_,_,_,_,rfl,by simp only[go_sem,seval];rfl,by simp only[go_sem,seval];rfl,by decide,rfl,rfl,rfl,rfl,h0,by omega⟩|omega|(simp;done)
  refine .seq (.rg [] ?_ (h:=by simp only[go_sem,seval,hw,hw0];rfl))
  refine .ret ⟨.inr rfl,?_⟩
  exact Out.mm (by simp only[Tryz.results214];rfl) (by simp only[ba_,rns,rn,go_sem,seval,hw,hw0]) (by simp only[aw_,go_sem,seval,hw,hw0]) (h1:=by simp only[a1_,bn_,go_sem,seval,hw,hw0]) (h6:=by simp only[go_sem,seval,hw,hw0]) (h7:=by simp only[a5_,go_sem,seval,hw,hw0])
 simp at h16;omega
end
section
theorem ajx_ (s:Str) (hs:s.length≤281474976710656):ACall En 145 [.s s] [] [.b (!ei_ s)] []:=by
 refine aa_ [] Tryz.func145 Tryz.ntmps145 fun C=>?_
 refine .seq (.rg [] ?_)
 refine .seq (.rg [ab_ (vf_ s hs)] ?_)
 refine .ret ⟨.inr rfl,Out.pP Tryz.results145 ?_⟩;trivial
attribute [local go_sem] af_ ah_ in
theorem aw9_ (l:List Str) (hs:∀s∈l,s.length≤281474976710656) (hl:l.length≤1000000):ACall En 37 [.sl false (ai_ l),.fn (.func 145) [] []] [] [.i .i64 (n6_ (fun p=>!ei_ p) l)] []:=by
 refine aa_ [] Tryz.func37 Tryz.ntmps37 fun C=>?_
 refine .seq (.rg [] ?_)
 refine .seq (.seq (.rg [] ?_))
 refine .block (.loopK (fun k:Nat=>⟨[.sl false (ai_ l),.fn (.func 145) [] [],.no,.no,.no,.no,.no,.i .i64 l.length,.i .i64 k,.no,.no,.no,.no,.no,.no,.no,.no,.no,.no],ae_ [],us []⟩) (fun k:Nat=>k≤l.length∧(l.take k).any (fun p=>!ei_ p)=false) (fun k:Nat=>l.length - k) (0) ?_ ?_ (fun k hI=>?_))
 ·simp
 ·refine Can.wh ?_;trivial
 refine .seq (.rg [] ?_)
 refine .seq (.cB (fun h9=>?_) fun h9=>?_)
 ·refine .skip (.seq (.block (.seq (.rg [] ?_))))
  refine .seq (.rgo [a0_ (k<l.length) (fun h=>ajx_ (l.getD k []) (hs _ (ag_ h)))] ?_ ?_ (h:=by simp only[go_sem,seval,an_ (show k<l.length by simpa using h9)];rfl))
  ·((simp only[decide_eq_true_eq]at h9;and_intros<;>omega))
  refine .cB (fun h16=>?_) fun h16=>?_
  ·refine .seq (.rg [] ?_)
   refine .ret ⟨.inr rfl,Out.pP Tryz.results37 ?_⟩;simp at h9;rw[o1_ (d:=[]) h9 hI.2 h16]
  refine .skip (.rg [] ?_)
  refine⟨k+1,?_,?_,?_⟩
  ·simp at h9;refine⟨by omega,?_⟩;rw[i6_ (d:=[]) h9,hI.2,h16];rfl
  ·simp at h9;omega
  refine Can.wh ?_;rw[ac_ (by omega) (by omega)];simp
 refine .exit (.seq (.rg [] ?_))
 refine .ret ⟨.inr rfl,Out.pP Tryz.results37 ?_⟩;simp at h9;have h0:=hI.2;rw[List.take_of_length_le h9]at h0;rw[iu_ h0]
attribute [local go_sem] ah_ in
theorem arz_ (l:List Str) (hs:∀s∈l,s.length≤281474976710656) (hl:l.length≤1000000):ACall En 144 [.sl false (ai_ l),.fn (.func 145) [] []] [] [.b (l.any fun p=>!ei_ p)] []:=by
 refine aa_ [] Tryz.func144 Tryz.ntmps144 fun C=>?_
 refine .seq (.rg [] ?_)
 refine .seq (.rg [ab_ (aw9_ l hs hl)] ?_)
 refine .ret ⟨.inr rfl,Out.pP Tryz.results144 ?_⟩;rw[m6_]
def plR (X:List (List Pg)):List (List V):=X.map fun l=>[.sl false (pgR l)]
theorem aza_ (X:List (List Pg)):(plR X).length=X.length:=by simp[plR]
theorem afx_:∀X:List (List Pg),bg_ (plR X)=true
 |[]=>rfl
 |x::X=>by
  show bg_ ([.sl false (pgR x)]::plR X)=true
  simp only[bg_,bu_,V.pure,a3_,afx_ X,Bool.and_true]
theorem aj9_ {X:List (List Pg)} {k:Nat} (h:k<X.length):(plR X).getD k []=[.sl false (pgR (X.getD k []))]:=by
 simp[plR,List.getD_eq_getElem?_getD,List.getElem?_eq_getElem h]
def s7_ (X:List (List Pg)) (k:Nat):Nat:=((X.take k).map List.length).sum
theorem p1_ {X:List (List Pg)} {k:Nat} (h:k<X.length):s7_ X (k+1)=s7_ X k+(X.getD k []).length:=by
 unfold s7_
 rw[List.take_add_one,List.getElem?_eq_getElem h,List.map_append,List.sum_append,List.getD_eq_getElem?_getD,List.getElem?_eq_getElem h];simp
theorem ahd_ {X:List (List Pg)} {k:Nat} (h:X.length≤k):s7_ X k=X.flatten.length:=by
 unfold s7_
 rw[List.take_of_length_le h,List.length_flatten]
theorem awc_ {X:List (List Pg)} (k:Nat):s7_ X k≤X.flatten.length:=by
 have h:∀(a b:List (List Pg)),(a.map List.length).sum≤(a++b).flatten.length:=fun a b=>by
  rw[List.flatten_append,List.length_append,List.length_flatten (L:=a)];omega
 have:=h (X.take k) (X.drop k)
 rw[List.take_append_drop]at this
 exact this
theorem avk_ {X:List (List Pg)} {k:Nat} (h:k<X.length):(X.take (k+1)).flatten=(X.take k).flatten++X.getD k []:=by
 rw[List.take_add_one,List.getElem?_eq_getElem h,List.flatten_append,List.getD_eq_getElem?_getD,List.getElem?_eq_getElem h];simp
theorem avr_ {X:List (List Pg)} (k:Nat):(X.take k).flatten.length=s7_ X k:=by unfold s7_;rw[List.length_flatten]
attribute [local go_sem] aw_ a5_ aza_ afx_ bl_ a3_ in
theorem arj_ (X:List (List Pg)) (h0:0<X.flatten.length) (h1:X.flatten.length≤100000) (h2:X.length≤100):ACall En 147 [.sl false (plR X)] [] [.ow 0 4 0 X.flatten.length] [⟨67,4,pgR X.flatten⟩]:=by
 have hs:=fun k=>awc_ (X:=X) k
 have hr:∀r∈pgR X.flatten,r.length=4:=fun r hr=>by obtain⟨p,_,rfl⟩:=List.mem_map.1 hr;rfl
 have hr2:∀k,∀r∈pgR (X.getD k []),r.length=4:=fun k r hr=>by obtain⟨p,_,rfl⟩:=List.mem_map.1 hr;rfl
 refine aa_ [80] Tryz.func147 Tryz.ntmps147 fun C=>?_
 refine .seq (.rg [] ?_)
 refine .seq (.rg [] ?_)
 refine .seq (.seq (.rg [] ?_))
 refine .block (.loopK (fun k:Nat=>⟨[.sl false (plR X),.no,.no,.i .i64 (s7_ X k),.no,.no,.no,.no,.no,.sl false (plR X),.i .i64 X.length,.i .i64 k,.no,.no,.no,.no,.no,.no,.no,.no,.no,.no,.no,.no,.no,.no,.no,.no,.no,.no,.no,.no,.no,.no,.no,.no],ae_ [],us []⟩) (fun k:Nat=>k≤X.length) (fun k:Nat=>X.length - k) (0) ?_ ?_ (fun k hI=>?_))
 ·simp
 ·refine Can.wh ?_;(try simp[s7_])
 refine .seq (.rg [] ?_)
 refine .seq (.cB (fun h12=>?_) fun h12=>?_)
 ·refine .skip (.seq (.block (.seq (.rgo [] ?_ ?_ (h:=by simp only[go_sem,seval,aj9_ (show k<X.length by simpa using h12)];rfl)))))
  ·((simp only[decide_eq_true_eq]at h12;and_intros<;>omega))
  refine .seq (.rg [] ?_)
  refine .seq (.rg [] ?_)
  refine .cB (fun h20=>?_) fun h20=>?_
  ·simp only[decide_eq_true_eq]at h12 h20;have e:=p1_ (X:=X) (k:=k) (by omega);have e2:=hs (k+1);rw[ac_ (by omega) (by omega)]at h20;omega
  refine .skip (.rg [] ?_)
  refine⟨k+1,?_,?_,?_⟩
  ·simp at h12;omega
  ·simp at h12;omega
  refine Can.wh ?_;simp at h12;have e:=p1_ h12;have e2:=hs (k+1);rw[ac_ (by omega) (by omega),ac_ (by omega) (by omega)];(try simp[e])
 refine .exit (.seq (.rgo [at_ [] [34] (a1q_ X.flatten.length h0 h1)] ?_ ?_))
 ·simp only[decide_eq_false_iff_not]at h12;exact⟨by rw[ahd_ (by omega)],by simp⟩
 refine .seq (.seq (.rg [] ?_))
 refine .block (.loopK (fun k:Nat=>⟨[.no,.no,.no,.no,.no,.no,.ow 80 4 0 (s7_ X k),.no,.no,.no,.no,.no,.no,.no,.no,.no,.no,.no,.no,.no,.no,.no,.no,.no,.no,.sl false (plR X),.i .i64 X.length,.i .i64 k,.no,.no,.no,.no,.no,.no,.no,.no],ae_ [(80,⟨67,4,pgR (X.take k).flatten⟩)],us [80]⟩) (fun k:Nat=>k≤X.length) (fun k:Nat=>X.length - k) (0) ?_ ?_ (fun k hI=>?_))
 ·simp
 ·refine Can.trans (Can.sX 34 80) ?_
  refine Can.wk ?_ ?_
  ·(try simp[s7_])
  (try simp[pgR])
 refine .seq (.rg [] ?_)
 refine .seq (.cB (fun h28=>?_) fun h28=>?_)
 ·refine .skip (.seq (.block (.seq (.rgo [] ?_ ?_ (h:=by simp only[go_sem,seval,aj9_ (show k<X.length by simpa using h28)];rfl)))))
  ·((simp only[decide_eq_true_eq]at h28;and_intros<;>omega))
  refine .rgo [] ?_ ?_
  ·simp only[decide_eq_true_eq]at h28;have e:=p1_ (X:=X) (k:=k) (by omega);have e2:=hs (k+1);exact⟨hr2 k,by simp,avr_ k,by omega⟩
  refine .rg [] ?_
  refine⟨k+1,?_,?_,?_⟩
  ·simp at h28;omega
  ·simp at h28;omega
  refine Can.trans (Can.sX 43 80) ?_
  refine Can.wk ?_ ?_
  ·simp only[decide_eq_true_eq]at h28;exact⟨by rw[p1_ (by omega)],ac_ (n:=((k+1:Nat):Int)) (by omega) (by omega)⟩
  simp only[decide_eq_true_eq]at h28;rw[avk_ (by omega)];simp[pgR]
 refine .exit (.seq (.rg [] ?_))
 refine .ret ⟨.inr rfl,Out.mP Tryz.results147 ?_ ?_⟩
 ·simp only[decide_eq_false_iff_not]at h28;rw[ahd_ (by omega)]
 simp only[decide_eq_false_iff_not]at h28;rw[List.take_of_length_le (by omega)]
theorem aq2_ (e:Pg) (r:List Pg):pgR (e::r)=pgC e::pgR r:=rfl
theorem aee_ (l:List Pg):∀r∈pgR l,r.length=4:=fun r hr=>by obtain⟨p,_,rfl⟩:=List.mem_map.1 hr;rfl
attribute [local go_sem] aq2_ bl_ rnr in
theorem apa_ (e:Pg) (r:List Pg) (hl:r.length<1000000):ACall En 268 [.sl false (pgR (e::r))] [] [.ow 0 4 0 (r.length+1)] [⟨67,4,pgR (e::r)⟩]:=by
 have hc:∀l:List Pg,clr 1 (pgR l)=true:=fun l=>ks_ _ _ (a3_ l)
 have hcc:cls 1 (pgC e)=true:=em_ _ _ (up_ e)
 have hrn:rns [17] (pgC e)=pgC e:=ej_ _ _ (up_ e)
 have hrr:rnr [17] (pgR r)=pgR r:=b7_ _ _ (a3_ r)
 refine aa_ [17] Tryz.func268 Tryz.ntmps268 fun C=>?_
 refine .seq (.rg [] ?_ (h:=by simp only[go_sem,seval,hc,hcc,hrn,hrr];rfl))
 refine .seq (.seq (.rgSo [4] [nilO En] ?_ ?_ (h:=by simp only[go_sem,seval,hc,hcc,hrn,hrr];rfl)))
 ·((simp[pgC];done))
 refine .cB (fun h4=>?_) (fun h4=>?_) (hc:=by simp only[go_sem,seval,hc,hcc,hrn,hrr];rfl) (hp:=by simp only[go_sem,seval,hc,hcc,hrn,hrr])
 ·exact absurd h4 (by simp)
 refine .skip (.seq (.rgo [] ?_ ?_ (h:=by simp only[go_sem,seval,hc,hcc,hrn,hrr];rfl)))
 ·refine⟨aee_ (e::r),by simp,?_⟩;omega
 refine .ret ⟨.inr rfl,?_⟩
 exact Out.mm (by simp only[Tryz.results268];rfl) (by simp only[ba_,rns,rn,go_sem,seval,hc,hcc,hrn,hrr]<;>(simp)) (by simp only[aw_,go_sem,seval,hc,hcc,hrn,hrr]<;>((try rfl))) (h1:=by simp only[a1_,bn_,go_sem,seval,hc,hcc,hrn,hrr]) (h6:=by simp only[go_sem,seval,hc,hcc,hrn,hrr]) (h7:=by simp only[a5_,go_sem,seval,hc,hcc,hrn,hrr])
attribute [local go_sem] a3_ bl_ in
theorem aw8_ (l:List Pg) (hl:l.length<1000000):ACall En 267 [.ow 0 4 0 l.length] [⟨67,4,pgR l⟩] [.ow 0 4 0 l.length] [⟨67,4,pgR l⟩]:=by
 refine aa_ [0] Tryz.func267 Tryz.ntmps267 fun C=>?_
 refine .seq (.rg [] ?_)
 refine .seq (.rg [] ?_)
 refine .ret ⟨.inr rfl,Out.mP Tryz.results267 ?_ ?_⟩
 ·(try simp)
 trivial
attribute [local go_sem] a3_ bl_ in
theorem apw_ (l:List Pg) (h0:0<l.length) (hl:l.length<1000000):ACall En 213 [.sl false (pgR l)] [] [.ow 0 4 0 l.length] [⟨67,4,pgR l⟩]:=by
 have CC:ACall En 268 [.sl false (pgR l)] [] [.ow 0 4 0 l.length] [⟨67,4,pgR l⟩]:=by
  cases l with
  |nil=>simp at h0
  |cons e r=>exact apa_ e r (by simp at hl;omega)
 refine aa_ [14] Tryz.func213 Tryz.ntmps213 fun C=>?_
 refine .seq (.rg [] ?_)
 refine .seq (.rg [at_ [] [14] CC,at_ [14] [] (aw8_ l hl)] ?_)
 refine .ret ⟨.inr rfl,Out.mP Tryz.results213 ?_ ?_⟩
 ·trivial
 trivial
theorem aop_ (X:List (List Pg)) (h0:0<X.flatten.length) (h1:X.flatten.length≤100000) (h2:X.length≤100):ACall En 147 [.sl false (plR X)] [] [.sl false (pgR X.flatten)] []:=
 (arj_ X h0 h1 h2).frz1 (by simp[er_,frz,bl_,List.take_of_length_le])
theorem axa_ {l:List Pg} {k:Nat} (h:k<l.length):(pgR l).set k [.s (l.getD k Pg0).line,.b (l.getD k Pg0).good,.s (l.getD k Pg0).text,.sl false (inR (l.getD k Pg0).frm)]=pgR l:=by
 refine List.ext_getElem (by simp) fun j h1 h2=>?_
 rw[List.getElem_set]
 split
 ·rename_i e;subst e
  have:=c4_ h
  rw[List.getD_eq_getElem?_getD,List.getElem?_eq_getElem h2]at this
  exact this.symm
 rfl
theorem a2o_ {l:List Pg} {k z n:Nat} {rows:List (List V)} {a t:Str} {g:Bool} (hn:n=rows.length):im_ 29 z rows ((pgR l).set k [.s a,.b g,.s t,.ow 29 z 0 n])=(pgR l).set k [.s a,.b g,.s t,.sl false rows]:=by
 have h:∀(L:List (List V)) (i:Nat) (r:List V),im_ 29 z rows (L.set i r)=(im_ 29 z rows L).set i (er_ 29 z rows r):=by
  intro L
  induction L with
  |nil=>intro i r;rfl
  |cons x L ih=>
   intro i r
   cases i with
   |zero=>rfl
   |succ i=>simp only[List.set_cons_succ,im_,ih]
 rw[h,kr_ _ (a3_ l)]
 congr 1
 subst hn
 simp[er_,frz,List.take_of_length_le]
attribute [local go_sem] aw_ a5_ bl_ a3_ cm_ al_ a2_ in
theorem ajq_ (l:List Pg) (h0:0<l.length) (hl:l.length≤100000) (hs:∀p∈l,pgB p):ACall En 146 [.sl false (pgR l)] [] [.sl false (pgR l)] []:=by
 refine aa_ [] Tryz.func146 Tryz.ntmps146 fun C=>?_
 refine .seq (.rg [] ?_)
 refine .seq (.rg [at_ [] [17] (apw_ l h0 (by omega))] ?_)
 refine .seq (.seq (.rg [] ?_))
 refine .block (.loopK (fun k:Nat=>⟨[.no,.no,.no,.ow 17 4 0 l.length,.no,.no,.no,.no,.sl false (pgR l),.i .i64 l.length,.i .i64 k,.no,.no,.no,.no,.no,.no,.no,.no,.no,.no,.no,.no,.no],ae_ [(17,⟨67,4,pgR l⟩)],us [17]⟩) (fun k:Nat=>k≤l.length) (fun k:Nat=>l.length - k) (0) ?_ ?_ (fun k hI=>?_))
 ·simp
 ·refine Can.wh ?_;trivial
 refine .seq (.rg [] ?_)
 refine .seq (.cB (fun h11=>?_) fun h11=>?_)
 ·refine .skip (.seq (.block (.seq (.rgo [] ?_ ?_ (h:=by simp only[go_sem,seval,c4_ (show k<l.length by simpa using h11)];rfl)))))
  ·((simp only[decide_eq_true_eq]at h11;and_intros<;>first|omega|(simp;done)))
  refine .rgo [fo_ [] [29] (k<l.length) (fun h=>ae4_ (l.getD k Pg0).frm (by have:=(hs _ (ag_ (d:=Pg0) h)).2.2;omega))] ?_ ?_ (h:=by simp only[go_sem,seval,c4_ (show k<l.length by simpa using h11)];rfl)
  ·((simp only[decide_eq_true_eq]at h11;and_intros<;>first|omega|(simp;done)))
  refine .rg [] ?_
  refine⟨k+1,?_,?_,?_⟩
  ·simp at h11;omega
  ·simp at h11;omega
  refine Can.trans (Can.frz 29 (by simp only[go_sem,seval]<;>rfl) (by simp only[go_sem,seval]) (by simp only[go_sem,seval]<;>rfl) (by simp only[go_sem,seval]<;>rfl)) ?_
  refine Can.wk ?_ ?_
  ·rw[ac_ (by simp at h11;omega) (by simp at h11;omega)];(try simp)
  simp only[decide_eq_true_eq]at h11;rw[a2o_ (by rw[a2_]),axa_ (by omega)]
 refine .exit (.seq (.rg [] ?_))
 refine .fX 17 ?_
 refine .ret ⟨.inr rfl,Out.pP Tryz.results146 ?_⟩;simp[List.take_of_length_le,bl_,peel]
theorem atn_ (l:List Pg) (n:Nat):(pgR l).take n=pgR (l.take n):=by simp[pgR,List.map_take]
theorem ash_ (l:List Pg) (n:Nat):(pgR l).drop n=pgR (l.drop n):=by simp[pgR,List.map_drop]
attribute [local go_sem] aw_ a5_ bl_ a3_ cm_ al_ af_ ah_ in
theorem n3_ (l:List Pg) (a:Int) (d:Nat) (ls:List Str) (hs:∀p∈l,pgB p) (hl:l.length≤2000000) (ha : -9223372036854775808≤a) (ha2:a<9223372036854775808) (hd:d≤1) (hls:∀s∈ls,s.length≤2000000) (hn:ls.length≤1):ACall En 80 [.sl false (pgR l),.i .i64 a,.i .i64 d,.sl false (ai_ ls)] [] [.sl false (pgR (chg l a d ls)),.b (bf_ l a d ls)] []:=by
 have hw1:IntKind.i64.wrap ((l.length:Int) - d)=(l.length:Int) - d:=by rw[ac_ (by omega) (by omega)]
 have hw2:IntKind.i64.wrap ((l.length:Int) - d+ls.length)=(l.length:Int) - d+ls.length:=by rw[ac_ (by omega) (by omega)]
 have hw3:bf_ l a d ls=true→IntKind.i64.wrap (a+d)=a+d:=fun h=>by obtain⟨q1,q2,q3,q4,q5,q6⟩:=dw_ h;rw[ac_ (by omega) (by omega)]
 have hO:bf_ l a d ls=(((bi_ l&&(decide (0≤a)&&decide (a≤(l.length:Int) - d)))&&ls.all ei_)&&(decide (1≤(l.length:Int) - d+ls.length)&&decide ((l.length:Int) - d+ls.length≤16))):=rfl
 have hC1:bf_ l a d ls=true→0<(n9_ l a.toNat d ls).length:=fun h=>by
  obtain⟨q1,q2,q3,q4,q5,q6⟩:=dw_ h
  rw[wj_ (by omega)];omega
 have hC2:bf_ l a d ls=true→(n9_ l a.toNat d ls).length≤100000:=fun h=>by
  obtain⟨q1,q2,q3,q4,q5,q6⟩:=dw_ h
  rw[wj_ (by omega)];omega
 have hfl:[l.take a.toNat,ls.map dl_,l.drop (a.toNat+d)].flatten=n9_ l a.toNat d ls:=by simp[n9_]
 have hF1:bf_ l a d ls=true→0<[l.take a.toNat,ls.map dl_,l.drop (a.toNat+d)].flatten.length:=fun h=>by rw[hfl];exact hC1 h
 have hF2:bf_ l a d ls=true→[l.take a.toNat,ls.map dl_,l.drop (a.toNat+d)].flatten.length≤100000:=fun h=>by rw[hfl];exact hC2 h
 have hN:∀x:Bool,(!bi_ l||!(decide (0≤a)&&decide (a≤(l.length:Int) - d))||!ls.all ei_||!(decide (1≤(l.length:Int) - d+ls.length)&&decide ((l.length:Int) - d+ls.length≤16)))=x→bf_ l a d ls=!x:=fun x h=>by
  rw[hO,←h,←Bool.not_and,←Bool.not_and,←Bool.not_and,Bool.not_not]
 have hall:(ls.any fun p=>!ei_ p)=!ls.all ei_:=by rw[List.any_eq_not_all_not];simp
 refine aa_ [] Tryz.func80 Tryz.ntmps80 fun C=>?_
 refine .seq (.rg [] ?_ (h:=by simp only[go_sem,seval,hw1,hw2,hall];rfl))
 refine .seq (.seq (.rg [ab_ (nj_ l hs (by omega)),ab_ (ta_ a 0 ((l.length:Int) - d)),ab_ (arz_ ls (fun s h=>by have:=hls s h;omega) (by omega)),ab_ (ta_ ((l.length:Int) - d+ls.length) 1 16)] ?_ (h:=by simp only[go_sem,seval,hw1,hw2,hall];rfl)))
 refine .cB (fun h39=>?_) (fun h39=>?_) (hc:=by simp only[go_sem,seval,hw1,hw2,hall];rfl) (hp:=by simp only[go_sem,seval,hw1,hw2,hall])
 ·refine .seq (.rg [] ?_ (h:=by simp only[go_sem,seval,hw1,hw2,hall];rfl))
  refine .ret ⟨.inr rfl,?_⟩
  exact Out.plL (by simp only[Tryz.results80];rfl) (by simp only[ba_,go_sem,seval,hw1,hw2,hall]<;>(have e:bf_ l a d ls=false:=(by rw[hN _ h39];rfl);rw[aat_ e,e];simp[les,leV,ler,pgR])) (h1:=by simp only[a1_,bn_,go_sem,seval,hw1,hw2,hall]<;>(split<;>rfl)) (h3:=by simp only[go_sem,seval,hw1,hw2,hall])
 refine .skip (.seq (.rg [] ?_ (h:=by simp only[go_sem,seval,hw1,hw2,hall];rfl)))
 refine .seqJ (fun u:Unit=>⟨[.sl false (pgR l),.i .i64 a,.i .i64 d,.no,.no,.no,.no,.no,.no,.no,.sl false (pgR (ls.map dl_)),.no,.no,.no,.no,.no,.no,.no,.no,.no,.no,.no,.no,.no,.no,.no,.no,.no,.no,.no,.no,.no,.no,.no,.no,.no,.no,.no,.no,.no,.no,.no,.no,.no,.no,.no,.no,.no,.no,.no,.no,.no,.no,.no,.no,.no,.no,.no,.no,.no,.no,.no,.no,.no],ae_ [],us []⟩) (fun u:Unit=>bf_ l a d ls=true) ?_ (fun u hJ=>?_)
 ·refine .seq (.rg [] ?_ (h:=by simp only[go_sem,seval,hw1,hw2,hall];rfl))
  refine .block (.loopK (fun k:Nat=>⟨[.sl false (pgR l),.i .i64 a,.i .i64 d,.no,.no,.no,.no,.no,.no,.no,.ow 100 4 0 k,.no,.no,.no,.no,.no,.no,.no,.no,.no,.no,.no,.no,.no,.no,.no,.no,.no,.no,.no,.no,.no,.no,.no,.no,.no,.no,.no,.no,.no,.sl false (ai_ ls),.i .i64 ls.length,.i .i64 k,.no,.no,.no,.no,.no,.no,.no,.no,.no,.no,.no,.no,.no,.no,.no,.no,.no,.no,.no,.no,.no],ae_ [(100,⟨67,4,pgR ((ls.take k).map dl_)⟩)],us [100]⟩) (fun k:Nat=>k≤ls.length∧bf_ l a d ls=true) (fun k:Nat=>ls.length - k) (0) ?_ ?_ (fun k hI=>?_))
  ·exact⟨Nat.zero_le _,by rw[hN _ h39];rfl⟩
  ·refine Can.trans (Can.ownSlot 10 100 67 4 (by simp only[go_sem,seval,hw1,hw2,hall]<;>rfl) (by simp only[go_sem,seval,hw1,hw2,hall]) (by simp only[go_sem,seval,hw1,hw2,hall]<;>rfl)) ?_
   exact Can.wl (h:=by simp only[go_sem,seval,hw1,hw2,hall,av_,leV,as_,au_,V.inn,us,true_or,or_true]<;>((try simp))) (hi:=by simp only[go_sem,seval,hw1,hw2,hall,av_,leV,as_,au_,V.inn,us,true_or,or_true]) (hL:=by simp only[go_sem,seval,hw1,hw2,hall,av_,leV,as_,au_,V.inn,us,true_or,or_true]<;>((try simp[pgR])))
  refine .seq (.rg [] ?_ (h:=by simp only[go_sem,seval,hw1,hw2,hall];rfl))
  refine .seq (.cB (fun h43=>?_) (fun h43=>?_) (hc:=by simp only[go_sem,seval,hw1,hw2,hall];rfl) (hp:=by simp only[go_sem,seval,hw1,hw2,hall]))
  ·refine .skip (.seq (.block (.seq (.rgo [] ?_ ?_ (h:=by simp only[go_sem,seval,hw1,hw2,hall,an_ (show k<ls.length by simpa using h43)];rfl)))))
   ·((simp only[decide_eq_true_eq]at h43;and_intros<;>first|omega|(simp;done)|(simp;omega)))
   refine .rgo [a0_ (k<ls.length) (fun h=>rh_ (ls.getD k []) (by have:=hls _ (ag_ (d:=[]) h);omega))] ?_ ?_ (h:=by simp only[go_sem,seval,hw1,hw2,hall];rfl)
   ·((simp only[decide_eq_true_eq]at h43;and_intros<;>first|omega|(simp;done)|(simp;omega)))
   refine .rg [] ?_ (h:=by simp only[go_sem,seval,hw1,hw2,hall];rfl)
   refine⟨k+1,?_,?_,?_⟩
   ·simp at h43;exact⟨by omega,hI.2⟩
   ·simp at h43;omega
   refine Can.trans (Can.swap 60 100 (by decide) (by decide) (by decide) (by decide) (by simp only[go_sem,seval,hw1,hw2,hall,V.cl]) (by simp only[go_sem,seval,hw1,hw2,hall,V.cl]) (by simp only[go_sem,seval,hw1,hw2,hall,dv_,sw,swM,rnB]<;>rfl) (by simp only[go_sem,seval,hw1,hw2,hall,dv_,sw,swM,rnB]<;>rfl) (by simp only[go_sem,seval,hw1,hw2,hall,dv_,sw,swM,rnB]<;>rfl)) ?_
   exact Can.wl (h:=by simp only[go_sem,seval,hw1,hw2,hall,av_,leV,as_,au_,V.inn,us,true_or,or_true]<;>(rw[ac_ (by simp at h43;omega) (by simp at h43;omega)];(try simp))) (hi:=by simp only[go_sem,seval,hw1,hw2,hall,av_,leV,as_,au_,V.inn,us,true_or,or_true]) (hL:=by simp only[go_sem,seval,hw1,hw2,hall,av_,leV,as_,au_,V.inn,us,true_or,or_true]<;>(rw[bkTk (by simpa using h43),cm_]))
  refine .exit ?_
  refine Exists.intro (()) ⟨?_,?_⟩
  ·exact hI.2
  refine Can.trans (Can.frz 100 (by simp only[go_sem,seval,hw1,hw2,hall]<;>rfl) (by simp only[go_sem,seval,hw1,hw2,hall]) (by simp only[go_sem,seval,hw1,hw2,hall]<;>rfl) (by simp only[go_sem,seval,hw1,hw2,hall]<;>rfl)) ?_
  exact Can.wl (h:=by simp only[go_sem,seval,hw1,hw2,hall,av_,leV,as_,au_,V.inn,us,true_or,or_true]<;>(simp only[decide_eq_false_iff_not]at h43;(obtain rfl:k=ls.length:=(by omega));simp[List.take_of_length_le,bl_,leV,ad_])) (hi:=by simp only[go_sem,seval,hw1,hw2,hall,av_,leV,as_,au_,V.inn,us,true_or,or_true]) (hL:=by simp only[go_sem,seval,hw1,hw2,hall,av_,leV,as_,au_,V.inn,us,true_or,or_true])
 refine .seq (.rgDo [a0_ (bf_ l a d ls=true) (fun h=>aop_ [l.take a.toNat,ls.map dl_,l.drop (a.toNat+d)] (hF1 h) (hF2 h) (by simp)),a0_ (bf_ l a d ls=true) (fun h=>ajq_ (n9_ l a.toNat d ls) (hC1 h) (hC2 h) (a2b_ hs hls))] ?_ ?_ (h:=by simp only[go_sem,seval,hw1,hw2,hall,hw3 hJ,plR,List.map_cons,List.map_nil,List.length_cons,List.length_nil,atn_,ash_,List.drop_zero,List.take_length,Int.toNat_natCast,show(a+(d:Int)).toNat=a.toNat+d by have:=(dw_ hJ).2.1;omega];rfl))
 ·obtain⟨q1,q2,q3,q4,q5,q6⟩:=dw_ hJ;refine⟨⟨⟨⟨by omega,by omega,by omega,fun h=>absurd rfl h⟩,⟨by omega,by omega,by omega⟩,.inr (aee_ l)⟩,hJ⟩,by rw[hfl];exact ad_ _,hJ⟩
 refine .ret ⟨.inr rfl,?_⟩
 exact Out.plL (by simp only[Tryz.results80];rfl) (by simp only[ba_,go_sem,seval,hw1,hw2,hall]<;>(rw[rt_ hJ,hJ];simp[les,leV,ad_])) (h1:=by simp only[a1_,bn_,go_sem,seval,hw1,hw2,hall]<;>(split<;>rfl)) (h3:=by simp only[go_sem,seval,hw1,hw2,hall])
attribute [local go_sem] a3_ ah_ in
theorem ag0_ (l:List Pg) (a:Int) (w:Str) (hs:∀p∈l,pgB p) (hl:l.length≤2000000) (ha : -9223372036854775808≤a) (ha2:a<9223372036854775808) (hw:w.length≤2000000):ACall En 44 [.sl false (pgR l),.i .i64 a,.s w] [] [.sl false (pgR (chg l a 1 [w])),.b (bf_ l a 1 [w])] []:=by
 refine aa_ [] Tryz.func44 Tryz.ntmps44 fun C=>?_
 refine .seq (.rg [] ?_)
 refine .seq (.rg [ab_ (n3_ l a 1 [w] hs hl ha ha2 (by decide) (by simpa using hw) (by simp))] ?_)
 refine .ret ⟨.inr rfl,Out.pP Tryz.results44 ?_⟩;trivial
attribute [local go_sem] a3_ ah_ in
theorem vp_ (l:List Pg) (a:Int) (w:Str) (hs:∀p∈l,pgB p) (hl:l.length≤2000000) (ha : -9223372036854775808≤a) (ha2:a<9223372036854775808) (hw:w.length≤2000000):ACall En 40 [.sl false (pgR l),.i .i64 a,.s w] [] [.sl false (pgR (chg l a 0 [w])),.b (bf_ l a 0 [w])] []:=by
 refine aa_ [] Tryz.func40 Tryz.ntmps40 fun C=>?_
 refine .seq (.rg [] ?_)
 refine .seq (.rg [ab_ (n3_ l a 0 [w] hs hl ha ha2 (by decide) (by simpa using hw) (by simp))] ?_)
 refine .ret ⟨.inr rfl,Out.pP Tryz.results40 ?_⟩;trivial
attribute [local go_sem] a3_ ah_ in
theorem agf_ (l:List Pg) (a:Int) (hs:∀p∈l,pgB p) (hl:l.length≤2000000) (ha : -9223372036854775808≤a) (ha2:a<9223372036854775808):ACall En 45 [.sl false (pgR l),.i .i64 a] [] [.sl false (pgR (chg l a 1 [])),.b (bf_ l a 1 [])] []:=by
 refine aa_ [] Tryz.func45 Tryz.ntmps45 fun C=>?_
 refine .seq (.rg [] ?_)
 refine .seq (.rg [ab_ (n3_ l a 1 [] hs hl ha ha2 (by decide) (fun s h=>by cases h) (by simp))] ?_)
 refine .ret ⟨.inr rfl,Out.pP Tryz.results45 ?_⟩;trivial
end
section
open Go.RowKit
abbrev dk (b:List Pg):List Blk:=[⟨36,1,[[.sl false (pgR b)]]⟩]
attribute [local go_sem] aw_ a5_ a3_ in
theorem pd_ (b x:List Pg) (ok:Bool):ACall En 39 [.pt 0 1 0 0,.sl false (pgR x),.b ok] (dk b) [.s (gg_ b x ok).2] (dk (gg_ b x ok).1):=by
 refine aa_ [0] Tryz.func39 Tryz.ntmps39 fun C=>?_
 refine .seq (.rg [] ?_)
 refine .seq (.seq (.rg [] ?_))
 refine .cB (fun h8=>?_) fun h8=>?_
 ·refine .seq (.rg [] ?_)
  refine .ret ⟨.inr rfl,Out.mP Tryz.results39 ?_ ?_⟩
  ·simp only[Bool.not_eq_true']at h8;unfold gg_;rw[h8];rfl
  simp only[Bool.not_eq_true']at h8;unfold gg_;rw[h8];rfl
 refine .skip (.seq (.rg [] ?_))
 refine .seq (.rg [] ?_)
 refine .ret ⟨.inr rfl,Out.mP Tryz.results39 ?_ ?_⟩
 ·simp only[Bool.not_eq_false']at h8;unfold gg_;rw[h8];rfl
 simp only[Bool.not_eq_false']at h8;unfold gg_;rw[h8];rfl
attribute [local go_sem] aw_ a5_ a3_ bl_ cf_ al_ c3_ in
theorem a25_ (b:List Pg) (w:Str) (hb:bi_ b=true):ACall En 42 [.pt 0 1 0 0,.s w] (dk b) [.s (dj_ b w)] (dk b):=by
 obtain⟨hs,hl0⟩:=pa_ hb
 have hl:b.length≤2000000:=by omega
 have t1:=my_ b
 have t2:=qr_ b
 have t3:=wh_ b
 have t4:=kc_ b
 have t5:=gs_ (l9_ b)
 have t6:=aad_ (a6_ b)
 have t7:=r0_ (d5_ b)
 have sm:p5_ (prL (bc_ b))=true:=by unfold prL;split;exact jq_ _;rfl
 have hn:(prL (bc_ b)).length≤1000000:=by
  unfold prL;split
  ·have:=e5_ (bc_ b);simp;omega
  simp
 have t8:=r2_ (prL (bc_ b))
 have hi:inR [g0_ (prL (bc_ b))]=[[.i .i64 (g0_ (prL (bc_ b)))]]:=rfl
 refine aa_ [0] Tryz.func42 Tryz.ntmps42 fun C=>?_
 refine .seq (.rg [] ?_ (h:=by simp only[go_sem,seval,hi];rfl))
 refine .seq (.seq (.rg [] ?_ (h:=by simp only[go_sem,seval,hi];rfl)))
 refine .block (.seq (.rg [] ?_ (h:=by simp only[go_sem,seval,hi];rfl)))
 refine .cB (fun h8=>?_) (fun h8=>?_) (hc:=by simp only[go_sem,seval,hi];rfl) (hp:=by simp only[go_sem,seval,hi])
 ·refine .seq (.rgo [ab_ (ss_ b hs hl)] ?_ ?_ (h:=by simp only[go_sem,seval,hi];rfl))
  ·(omega)
  refine .ret ⟨.inr rfl,?_⟩
  exact Out.mm (by simp only[Tryz.results42];rfl) (by simp only[ba_,rns,rn,go_sem,seval,hi]<;>(unfold dj_;rw[if_pos (by simpa using h8)])) (by simp only[aw_,go_sem,seval,hi]<;>(rfl)) (h1:=by simp only[a1_,bn_,go_sem,seval,hi]) (h6:=by simp only[go_sem,seval,hi]) (h7:=by simp only[a5_,go_sem,seval,hi])
 refine .seq (.rg [] ?_ (h:=by simp only[go_sem,seval,hi];rfl))
 refine .cB (fun h16=>?_) (fun h16=>?_) (hc:=by simp only[go_sem,seval,hi];rfl) (hp:=by simp only[go_sem,seval,hi])
 ·refine .seq (.rgo [ab_ (s3_ b hs hl)] ?_ ?_ (h:=by simp only[go_sem,seval,hi];rfl))
  ·(omega)
  refine .ret ⟨.inr rfl,?_⟩
  exact Out.mm (by simp only[Tryz.results42];rfl) (by simp only[ba_,rns,rn,go_sem,seval,hi]<;>(unfold dj_;rw[if_neg (by simpa using h8),if_pos (by simpa using h16)])) (by simp only[aw_,go_sem,seval,hi]<;>(rfl)) (h1:=by simp only[a1_,bn_,go_sem,seval,hi]) (h6:=by simp only[go_sem,seval,hi]) (h7:=by simp only[a5_,go_sem,seval,hi])
 refine .seq (.rg [] ?_ (h:=by simp only[go_sem,seval,hi];rfl))
 refine .cB (fun h24=>?_) (fun h24=>?_) (hc:=by simp only[go_sem,seval,hi];rfl) (hp:=by simp only[go_sem,seval,hi])
 ·refine .seq (.rgo [ab_ (sc_ b hs hl),ab_ (ai0_ (a6_ b) (by omega))] ?_ ?_ (h:=by simp only[go_sem,seval,hi];rfl))
  ·(omega)
  refine .ret ⟨.inr rfl,?_⟩
  exact Out.mm (by simp only[Tryz.results42];rfl) (by simp only[ba_,rns,rn,go_sem,seval,hi]<;>(unfold dj_;rw[if_neg (by simpa using h8),if_neg (by simpa using h16),if_pos (by simpa using h24)])) (by simp only[aw_,go_sem,seval,hi]<;>(rfl)) (h1:=by simp only[a1_,bn_,go_sem,seval,hi]) (h6:=by simp only[go_sem,seval,hi]) (h7:=by simp only[a5_,go_sem,seval,hi])
 refine .seq (.rg [] ?_ (h:=by simp only[go_sem,seval,hi];rfl))
 refine .cB (fun h33=>?_) (fun h33=>?_) (hc:=by simp only[go_sem,seval,hi];rfl) (hp:=by simp only[go_sem,seval,hi])
 ·refine .seq (.rgo [ab_ (aid_ b hs hl),ab_ (hq_ (ky_ b) (l9_ b) (by omega))] ?_ ?_ (h:=by simp only[go_sem,seval,hi];rfl))
  ·(omega)
  refine .ret ⟨.inr rfl,?_⟩
  exact Out.mm (by simp only[Tryz.results42];rfl) (by simp only[ba_,rns,rn,go_sem,seval,hi]<;>(unfold dj_;rw[if_neg (by simpa using h8),if_neg (by simpa using h16),if_neg (by simpa using h24),if_pos (by simpa using h33)])) (by simp only[aw_,go_sem,seval,hi]<;>(rfl)) (h1:=by simp only[a1_,bn_,go_sem,seval,hi]) (h6:=by simp only[go_sem,seval,hi]) (h7:=by simp only[a5_,go_sem,seval,hi])
 refine .seq (.rg [] ?_ (h:=by simp only[go_sem,seval,hi];rfl))
 refine .cB (fun h42=>?_) (fun h42=>?_) (hc:=by simp only[go_sem,seval,hi];rfl) (hp:=by simp only[go_sem,seval,hi])
 ·refine .seq (.rg [ab_ (s3_ b hs hl),ab_ (aj0_ (d5_ b) (by omega)),ab_ (a0x_ (hm_ (d5_ b)).1 (hm_ (d5_ b)).2 (acs_ _) (by omega))] ?_ (h:=by simp only[go_sem,seval,hi];rfl))
  refine .ret ⟨.inr rfl,?_⟩
  exact Out.mm (by simp only[Tryz.results42];rfl) (by simp only[ba_,rns,rn,go_sem,seval,hi]<;>(unfold dj_;rw[if_neg (by simpa using h8),if_neg (by simpa using h16),if_neg (by simpa using h24),if_neg (by simpa using h33),if_pos (by simpa using h42)])) (by simp only[aw_,go_sem,seval,hi]<;>(rfl)) (h1:=by simp only[a1_,bn_,go_sem,seval,hi]) (h6:=by simp only[go_sem,seval,hi]) (h7:=by simp only[a5_,go_sem,seval,hi])
 refine .seqJ (fun u:Unit=>⟨[.pt 0 1 0 0,.s w,.no,.no,.no,.no,.no,.no,.no,.no,.no,.no,.no,.no,.no,.no,.no,.no,.no,.no,.no,.no,.no,.no,.no,.no,.no,.no,.no,.no,.no,.no,.no,.no,.no,.no,.no,.no,.no,.no,.no,.no,.no,.no,.no,.no,.no,.no,.no,.no,.no,.no,.no,.b (w==[116,121,112,101]||w==[114,117,110]),.no,.no,.no,.no,.no,.no,.no,.no,.no,.no,.no,.no,.no,.no,.no,.no,.no,.no,.no,.no,.no,.no,.no,.no,.no,.no],ae_ [(0,⟨36,1,[[.sl false (pgR b)]]⟩)],us []⟩) (fun u:Unit=>True) ?_ (fun u hJ=>?_)
 ·refine .seq (.rg [] ?_ (h:=by simp only[go_sem,seval,hi];rfl))
  refine .cB (fun h53=>?_) (fun h53=>?_) (hc:=by simp only[go_sem,seval,hi];rfl) (hp:=by simp only[go_sem,seval,hi])
  ·refine .skip ?_
   refine Exists.intro (()) ⟨?_,?_⟩
   ·trivial
   exact Can.wl (h:=by simp only[go_sem,seval,hi,av_,leV,as_,au_,V.inn,us,true_or,or_true]<;>((rw[h53];rfl))) (hi:=by simp only[go_sem,seval,hi,av_,leV,as_,au_,V.inn,us,true_or,or_true]) (hL:=by simp only[go_sem,seval,hi,av_,leV,as_,au_,V.inn,us,true_or,or_true])
  refine .rg [] ?_ (h:=by simp only[go_sem,seval,hi];rfl)
  refine Exists.intro (()) ⟨?_,?_⟩
  ·trivial
  exact Can.wl (h:=by simp only[go_sem,seval,hi,av_,leV,as_,au_,V.inn,us,true_or,or_true]<;>((rw[h53];rfl))) (hi:=by simp only[go_sem,seval,hi,av_,leV,as_,au_,V.inn,us,true_or,or_true]) (hL:=by simp only[go_sem,seval,hi,av_,leV,as_,au_,V.inn,us,true_or,or_true])
 refine .cB (fun h53=>?_) (fun h53=>?_) (hc:=by simp only[go_sem,seval,hi];rfl) (hp:=by simp only[go_sem,seval,hi])
 ·refine .seq (.rg [ab_ (ss_ b hs hl),ab_ (ad1_ (bc_ b) (by omega))] ?_ (h:=by simp only[go_sem,seval,hi];rfl))
  refine .seq (.block (.seq (.rg [] ?_ (h:=by simp only[go_sem,seval,hi];rfl))))
  refine .cB (fun h65=>?_) (fun h65=>?_) (hc:=by simp only[go_sem,seval,hi];rfl) (hp:=by simp only[go_sem,seval,hi])
  ·refine .seq (.rg [] ?_ (h:=by simp only[go_sem,seval,hi];rfl))
   refine .ret ⟨.inr rfl,?_⟩
   exact Out.mm (by simp only[Tryz.results42];rfl) (by simp only[ba_,rns,rn,go_sem,seval,hi]<;>(unfold dj_;rw[if_neg (by simpa using h8),if_neg (by simpa using h16),if_neg (by simpa using h24),if_neg (by simpa using h33),if_neg (by simpa using h42),if_pos (by simpa using h53),if_neg (by simpa using h65)])) (by simp only[aw_,go_sem,seval,hi]<;>(rfl)) (h1:=by simp only[a1_,bn_,go_sem,seval,hi]) (h6:=by simp only[go_sem,seval,hi]) (h7:=by simp only[a5_,go_sem,seval,hi])
  refine .seq (.rg [] ?_ (h:=by simp only[go_sem,seval,hi];rfl))
  refine .cB (fun h68=>?_) (fun h68=>?_) (hc:=by simp only[go_sem,seval,hi];rfl) (hp:=by simp only[go_sem,seval,hi])
  ·refine .seq (.rg [ab_ (ajw_ (prL (bc_ b)) sm (by omega)),ab_ (a0x_ (f5_ (prL (bc_ b))).1 (f5_ (prL (bc_ b))).2 (ab6_ _) (by omega))] ?_ (h:=by simp only[go_sem,seval,hi];rfl))
   refine .ret ⟨.inr rfl,?_⟩
   exact Out.mm (by simp only[Tryz.results42];rfl) (by simp only[ba_,rns,rn,go_sem,seval,hi]<;>(unfold dj_;rw[if_neg (by simpa using h8),if_neg (by simpa using h16),if_neg (by simpa using h24),if_neg (by simpa using h33),if_neg (by simpa using h42),if_pos (by simpa using h53),if_pos (by simpa using h65),if_pos (by simpa using h68)])) (by simp only[aw_,go_sem,seval,hi]<;>(rfl)) (h1:=by simp only[a1_,bn_,go_sem,seval,hi]) (h6:=by simp only[go_sem,seval,hi]) (h7:=by simp only[a5_,go_sem,seval,hi])
  refine .skip (.seq (.rg [ab_ (af6_ (prL (bc_ b)) sm (by omega)),ab_ (hq_ [g0_ (prL (bc_ b))] (fun n hn=>by simp only[List.mem_singleton]at hn;subst hn;exact uo_ _) (by simp))] ?_ (h:=by simp only[go_sem,seval,hi];rfl)))
  refine .ret ⟨.inr rfl,?_⟩
  exact Out.mm (by simp only[Tryz.results42];rfl) (by simp only[ba_,rns,rn,go_sem,seval,hi]<;>(unfold dj_;rw[if_neg (by simpa using h8),if_neg (by simpa using h16),if_neg (by simpa using h24),if_neg (by simpa using h33),if_neg (by simpa using h42),if_pos (by simpa using h53),if_pos (by simpa using h65),if_neg (by simpa using h68)])) (by simp only[aw_,go_sem,seval,hi]<;>(rfl)) (h1:=by simp only[a1_,bn_,go_sem,seval,hi]) (h6:=by simp only[go_sem,seval,hi]) (h7:=by simp only[a5_,go_sem,seval,hi])
 refine .skip (.seq (.rg [] ?_ (h:=by simp only[go_sem,seval,hi];rfl)))
 refine .ret ⟨.inr rfl,?_⟩
 exact Out.mm (by simp only[Tryz.results42];rfl) (by simp only[ba_,rns,rn,go_sem,seval,hi]<;>(unfold dj_;rw[if_neg (by simpa using h8),if_neg (by simpa using h16),if_neg (by simpa using h24),if_neg (by simpa using h33),if_neg (by simpa using h42),if_neg (by simpa using h53)])) (by simp only[aw_,go_sem,seval,hi]<;>(rfl)) (h1:=by simp only[a1_,bn_,go_sem,seval,hi]) (h6:=by simp only[go_sem,seval,hi]) (h7:=by simp only[a5_,go_sem,seval,hi])
attribute [local go_sem] aw_ a5_ a3_ bl_ cf_ ka_ ik_ in
theorem axx_ (b:List Pg) (w:Str) (L c:Int) (hs:∀p∈b,pgB p) (hl:b.length≤2000000):ACall En 46 [.pt 0 1 0 0,.s w,.ag [.i .i64 L,.i .i64 c]] (dk b) [.s (h5_ b w L c)] (dk b):=by
 have h1:=kc_ b
 have h2:=acp_ (a6_ b) L c
 refine aa_ [0] Tryz.func46 Tryz.ntmps46 fun C=>?_
 refine .seq (.rg [] ?_)
 refine .seq (.rg [ab_ (sc_ b hs hl)] ?_)
 refine .seq (.seq (.rg [] ?_))
 refine .cB (fun h19=>?_) fun h19=>?_
 ·refine .seq (.rg [ab_ (am0_ (a6_ b) L c (by omega))] ?_)
  refine .seq (.seq (.rg [] ?_))
  refine .cB (fun h27=>?_) fun h27=>?_
  ·refine .seq (.rg [] ?_)
   refine .ret ⟨.inr rfl,Out.mP Tryz.results46 ?_ ?_⟩
   ·simp only[Bool.not_eq_true',Option.isSome_eq_false_iff,Option.isNone_iff_eq_none]at h27;unfold h5_;rw[if_pos (by simpa using h19),h27]
   trivial
  refine .skip (.seq (.rgo [ab_ (z3_ (lkL (g3_ (a6_ b) L c)) (lkC (g3_ (a6_ b) L c)) (m7_ _ _ _).1 (m7_ _ _ _).2)] ?_ ?_))
  ·have h4:=m7_ (a6_ b) L c;have h5:=oe_ h4.1 h4.2;omega
  refine .ret ⟨.inr rfl,Out.mP Tryz.results46 ?_ ?_⟩
  ·have e:=h27;simp only[Bool.not_eq_false']at e;obtain⟨x,hx⟩:=Option.isSome_iff_exists.1 e;unfold h5_;rw[if_pos (by simpa using h19),hx];rfl
  trivial
 refine .skip (.seq (.rg [] ?_))
 refine .seq (.seq (.rg [ab_ (anu_ (a6_ b) L c (by omega))] ?_))
 refine .block (.loopK (fun k:Nat=>⟨[.pt 0 1 0 0,.no,.no,.no,.no,.no,.no,.no,.no,.no,.s (xl_ (di_ (a6_ b) L c) k),.no,.no,.no,.no,.no,.no,.no,.no,.no,.no,.no,.no,.no,.no,.no,.no,.no,.no,.no,.no,.no,.no,.sl false (toR (di_ (a6_ b) L c)),.i .i64 (di_ (a6_ b) L c).length,.i .i64 k,.no,.no,.no,.no,.no,.no,.no,.no,.no,.no,.no],ae_ [(0,⟨36,1,[[.sl false (pgR b)]]⟩)],us []⟩) (fun k:Nat=>k≤(di_ (a6_ b) L c).length) (fun k:Nat=>(di_ (a6_ b) L c).length - k) (0) ?_ ?_ (fun k hI=>?_))
 ·exact Nat.zero_le _
 ·refine Can.wh ?_;rfl
 refine .seq (.rg [] ?_)
 refine .seq (.cB (fun h36=>?_) fun h36=>?_)
 ·refine .skip (.seq (.block (.seq (.rgo [] ?_ ?_ (h:=by simp only[go_sem,seval,abe_ (show k<(di_ (a6_ b) L c).length by simpa using h36)];rfl)))))
  ·simp at h36;exact⟨by omega,by omega⟩
  refine .rgo [a0_ (k<(di_ (a6_ b) L c).length) (fun h=>z3_ ((di_ (a6_ b) L c).getD k G0).1 ((di_ (a6_ b) L c).getD k G0).2.1 (fh_ _ _ _ _ (ag_ h)).1 (fh_ _ _ _ _ (ag_ h)).2.1)] ?_ ?_ (h:=by simp only[go_sem,seval,abe_ (show k<(di_ (a6_ b) L c).length by simpa using h36)];rfl)
  ·simp only[decide_eq_true_eq]at h36;have hk:k<(di_ (a6_ b) L c).length:=(by omega);have:=mt_ (fh_ (a6_ b) L c) k (by omega);have:=oe_ (fh_ _ _ _ _ (ag_ (d:=G0) hk)).1 (fh_ _ _ _ _ (ag_ (d:=G0) hk)).2.1;simp only[List.length_append,List.length_cons,List.length_nil];exact⟨⟨hk,by omega⟩,by omega⟩
  refine .rg [] ?_
  refine⟨k+1,?_,?_,?_⟩
  ·simp at h36;omega
  ·simp at h36;omega
  refine Can.wh ?_;simp at h36;rw[vj_ h36,ac_ (by omega) (by omega)];exact⟨by simp,rfl⟩
 refine .exit (.seq (.rgo [] ?_ ?_))
 ·have:=mt_ (fh_ (a6_ b) L c) k hI;omega
 refine .ret ⟨.inr rfl,Out.mP Tryz.results46 ?_ ?_⟩
 ·simp only[decide_eq_false_iff_not]at h36;unfold h5_;rw[if_neg (by simpa using h19)];unfold xl_;rw[List.take_of_length_le (by omega)]
 trivial
end
end Go.Proofs.YthjccajoadjicaaGreatDoor
