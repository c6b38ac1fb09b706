/- The desk, plainly: what each line of a script does and answers. Conditions: none. -/
import Derived.Test.YthjccajoadjicaaGreatDoorMn
set_option linter.unusedVariables false
set_option linter.unusedSimpArgs false
set_option maxRecDepth 100000
set_option maxHeartbeats 8000000
namespace Go.Proofs.YthjccajoadjicaaGreatDoor
section
def nm_:Str:=[105,110,116]
def akr_:Str:=[98,111,111,108]
mutual
def l5_ (ns ts:List Str):E→Str
 |.mk k _ s kids=>
  if k=1 then nm_
  else if k=2 then(if 0≤fj_ ns s then ts.getD (fj_ ns s).toNat []else [])
  else if k=4 then(if typ0 ns ts kids=[]then []else s)
  else if typ0 ns ts kids=nm_∧typ1 ns ts kids=nm_ then(if s=[60]then akr_ else nm_)
  else []
def typ0 (ns ts:List Str):List E→Str
 |[]=>[]
 |e::_=>l5_ ns ts e
def typ1 (ns ts:List Str):List E→Str
 |[]=>[]
 |_::r=>typ0 ns ts r
end
def typO (ns ts:List Str) (e:E):Str:=if g1_ e then []else l5_ ns ts e
def xm_ (ns ts:List Str) (s:Sl):Bool:=
 if s.kind=1 then typO ns ts s.expr==s.type
 else if s.kind=2 then !(typO ns ts s.expr==[])
 else if s.kind=3 then typO ns ts s.expr==akr_&&!(typO ns ts s.thn==[])
 else true
def tyN (l:List Sl) (k:Nat):List Str:=((l.take k).filter fun s=>s.kind==1).map (·.name)
def tyT (l:List Sl) (k:Nat):List Str:=((l.take k).filter fun s=>s.kind==1).map (·.type)
def l3_ (l:List Sl) (k:Nat):Bool:=xm_ (tyN l k) (tyT l k) (l.getD k S0)
def g0_ (l:List Sl):Int:=
 if pok l then(match (List.range l.length).find? (fun k=>!l3_ l k)with|some k=>(k:Int)|none=> -1)else -2
/-! answers -/
def jt_ (l:List Int):Str:=(l.map fun n=>Lib.itoa n++[10]).flatten
def ou_ (r:List Int × Bool):Str:=jt_ r.1++(if r.2 then [102,105,110,101,10]else [115,116,117,99,107,10])
def xg_ (a b:Int):Str:=Lib.itoa a++(32::Lib.itoa b)
def bx_ (d:UInt8):Str→List Str
 |[]=>[[]]
 |c::l=>if c=d then []::bx_ d l else match bx_ d l with
  |[]=>[[c]]
  |w::r=>(c::w)::r
theorem ab1_ (d:UInt8):∀l:Str,bx_ d l≠[]
 |[]=>by simp[bx_]
 |c::l=>by
  unfold bx_
  split
  ·simp
  split<;>simp
theorem m1_ (d:UInt8):∀(s t:Str),bx_ d (s++d::t)=bx_ d s++bx_ d t
 |[],t=>by simp[bx_]
 |c::s,t=>by
  rw[List.cons_append,bx_,bx_,m1_ d s t]
  split
  ·rfl
  cases h:bx_ d s with
  |nil=>exact absurd h (ab1_ d s)
  |cons w r=>rfl
def d2_ (s:Str):List Str:=(bx_ 32 s).filter fun w=>!(w==[])
def dj_ (b:List Pg) (w:Str):Str:=
 if w=[116,101,120,116]then bc_ b++[10,101,110,100,10]
 else if w=[98,97,114,101]then d5_ b++[10,101,110,100,10]
 else if w=[109,97,112]then mapT (a6_ b)++[10]
 else if w=[98,97,100]then jt_ (ky_ b)++[101,110,100,10]
 else if w=[112,114,105,110,116]then ou_ (hm_ (d5_ b))
 else if w=[116,121,112,101]∨w=[114,117,110]then
  (if prR (bc_ b)then(if w=[114,117,110]then ou_ (f5_ (prL (bc_ b)))else jt_ [g0_ (prL (bc_ b))])else [98,97,100,10])
 else [119,104,97,116,10]
def h5_ (b:List Pg) (w:Str) (L c:Int):Str:=
 if w=[108,111,111,107]then
  (match g3_ (a6_ b) L c with|some x=>xg_ x.2.2.1 x.2.2.2++[10]|none=>[110,111,110,101,10])
 else((di_ (a6_ b) L c).map fun x=>xg_ x.1 x.2.1++[10]).flatten++[101,110,100,10]
def gg_ (b x:List Pg) (ok:Bool):List Pg × Str:=if ok then(x,[102,105,110,101,10])else(b,[110,111,10])
def isWhat:Str:=[119,104,97,116,10]
def bw_ (b:List Pg) (w:List Str):List Pg × Str:=
 if w.getD 0 []=[97,100,100]then gg_ b (chg b b.length 0 [ap_ (w.drop 1)]) (bf_ b b.length 0 [ap_ (w.drop 1)])
 else if w.length=1 then(b,dj_ b (w.getD 0 []))
 else if a8_ (w.getD 1 [])=false then(b,isWhat)
 else if w.getD 0 []=[105,110]then gg_ b (chg b (am_ (w.getD 1 [])) 0 [ap_ (w.drop 2)]) (bf_ b (am_ (w.getD 1 [])) 0 [ap_ (w.drop 2)])
 else if w.getD 0 []=[112,117,116]then gg_ b (chg b (am_ (w.getD 1 [])) 1 [ap_ (w.drop 2)]) (bf_ b (am_ (w.getD 1 [])) 1 [ap_ (w.drop 2)])
 else if w.getD 0 []=[111,117,116]∧w.length=2 then gg_ b (chg b (am_ (w.getD 1 [])) 1 []) (bf_ b (am_ (w.getD 1 [])) 1 [])
 else if (w.getD 0 []=[108,111,111,107]∨w.getD 0 []=[98,97,99,107])∧w.length=3∧a8_ (w.getD 2 [])=true then(b,h5_ b (w.getD 0 []) (am_ (w.getD 1 [])) (am_ (w.getD 2 [])))
 else(b,isWhat)
def goD:List Str→Nat→List Pg→Str→List Pg × Str × Bool
 |[],_,b,o=>(b,o,true)
 |x::r,i,b,o=>
  if d2_ x=[]then goD r (i+1) b o
  else if 200≤i∨60000<o.length then(b,o++[102,117,108,108,10],false)
  else goD r (i+1) (bw_ b (d2_ x)).1 (o++(bw_ b (d2_ x)).2)
def ds_ (s:Str):Str:=if 20000<s.length then [108,111,110,103,10]else(goD (bx_ 10 s) 0 (f4_ []) []).2.1
theorem lh_:∀(x y:List Str) (i:Nat) (b:List Pg) (o:Str),goD (x++y) i b o=if (goD x i b o).2.2 then goD y (i+x.length) (goD x i b o).1 (goD x i b o).2.1 else goD x i b o
 |[],y,i,b,o=>by simp[goD]
 |a::x,y,i,b,o=>by
  simp only[List.cons_append,goD]
  split
  ·rw[lh_ x y (i+1) b o,List.length_cons,show i+1+x.length=i+(x.length+1) by omega]
  split
  ·rfl
  rw[lh_ x y (i+1),List.length_cons,show i+1+x.length=i+(x.length+1) by omega]
theorem acx_:∀(x:List Str) (i:Nat) (b:List Pg) (o:Str),o <+: (goD x i b o).2.1
 |[],i,b,o=>by simp[goD]
 |a::x,i,b,o=>by
  simp only[goD]
  split
  ·exact acx_ x (i+1) b o
  split
  ·exact List.prefix_append _ _
  exact(List.prefix_append _ _).trans (acx_ x (i+1) _ _)
theorem atw_ (x y:List Str) (i:Nat) (b:List Pg) (o:Str):(goD x i b o).2.1 <+: (goD (x++y) i b o).2.1:=by
 rw[lh_]
 split
 ·exact acx_ _ _ _ _
 exact List.prefix_refl _
theorem aa6_:∀(x:List Str) (i:Nat) (b:List Pg) (o:Str),i+x.length≤200→(goD x i b o).2.1.length≤60000→(goD x i b o).2.2=true
 |[],i,b,o,_,_=>rfl
 |a::x,i,b,o,h,h2=>by
  simp only[List.length_cons]at h
  simp only[goD]at h2 ⊢
  split
  ·rename_i h3
   rw[if_pos h3]at h2
   exact aa6_ x (i+1) b o (by omega) h2
  rename_i h3
  rw[if_neg h3]at h2
  split
  ·rename_i h4
   rw[if_pos h4]at h2
   simp only[List.length_append]at h2
   omega
  rename_i h4
  rw[if_neg h4]at h2
  exact aa6_ x (i+1) _ _ (by omega) h2
theorem ajp_:d2_ []=[]:=rfl
theorem asn_ {s t:Str} (h:(s++10::t).length≤20000):ds_ (s++[10]) <+: ds_ (s++10::t):=by
 unfold ds_
 have h1:(s++[10]).length≤20000:=by simp only[List.length_append,List.length_cons,List.length_nil]at h ⊢;omega
 rw[if_neg (by omega),if_neg (by omega),m1_ 10 s [],m1_ 10 s t]
 have e:(goD (bx_ 10 s++bx_ 10 []) 0 (f4_ []) []).2.1=(goD (bx_ 10 s) 0 (f4_ []) []).2.1:=by
  rw[lh_]
  split
  ·show(goD [[]] _ _ _).2.1=_
   simp only[goD,ajp_,if_true]
  rfl
 rw[e]
 exact atw_ _ _ _ _ _
def az1_ (s:Str):List Pg:=(goD (bx_ 10 s) 0 (f4_ []) []).1
theorem yu_ {s w:Str} (h:s.length+1+w.length≤20000) (hl:(bx_ 10 s).length<200) (ho:(ds_ s).length≤60000) (hw:bx_ 10 w=[w]) (hw2:d2_ w=[w]):ds_ (s++10::w)=ds_ s++(bw_ (az1_ s) [w]).2:=by
 have e1:ds_ s=(goD (bx_ 10 s) 0 (f4_ []) []).2.1:=by unfold ds_;rw[if_neg (by omega)]
 have e2:ds_ (s++10::w)=(goD (bx_ 10 s++[w]) 0 (f4_ []) []).2.1:=by
  unfold ds_;rw[if_neg (by simp only[List.length_append,List.length_cons];omega),m1_,hw]
 rw[e1]at ho ⊢
 rw[e2,lh_,if_pos (aa6_ _ 0 _ _ (by omega) ho),Nat.zero_add]
 have hne:¬d2_ w=[]:=by rw[hw2];simp
 simp only[goD]
 rw[if_neg hne,if_neg (by omega),hw2]
 rfl
end
section
theorem gp_ {N M:List Str} {l:List E} (h:0<l.length):typ0 N M l=l5_ N M (l.getD 0 E0):=by
 cases l with
 |nil=>simp at h
 |cons a l=>simp[typ0]
theorem mr_ {N M:List Str} {l:List E} (h:1<l.length):typ1 N M l=l5_ N M (l.getD 1 E0):=by
 cases l with
 |nil=>simp at h
 |cons a l=>rw[typ1,gp_ (by simpa using h)];simp
theorem ak0_ (N M:List Str) (e:E):l5_ N M e=if e.kind=1 then nm_ else if e.kind=2 then(if 0≤fj_ N e.s then M.getD (fj_ N e.s).toNat []else [])else if e.kind=4 then(if typ0 N M e.kids=[]then []else e.s)
  else if typ0 N M e.kids=nm_∧typ1 N M e.kids=nm_ then(if e.s=[60]then akr_ else nm_)else []:=by
 cases e;rw[l5_];rfl
theorem aqv_ {e:E} (h:eok e=true):g1_ e=false:=by
 cases h2:g1_ e with
 |false=>rfl
 |true=>rw[(cy_ e).1 h2]at h;exact absurd h (by decide)
theorem oi_ {e:E} (h:eok e=true) (N M:List Str):typO N M e=l5_ N M e:=by unfold typO;rw[aqv_ h];rfl
theorem aup_ {s:Sl} (h:sok s=true):(g1_ s.expr=true∨eok s.expr=true)∧(g1_ s.thn=true∨eok s.thn=true):=by
 have h0:=(p8_ h).1
 unfold b9_ at h0
 by_cases k0:s.kind=0
 ·simp[k0]at h0;exact⟨.inl h0.1.2,.inl h0.2⟩
 by_cases k1:s.kind=1
 ·simp[k1]at h0;exact⟨.inr h0.1.2,.inl h0.2⟩
 by_cases k2:s.kind=2
 ·simp[k2]at h0;exact⟨.inr h0.1.2,.inl h0.2⟩
 by_cases k3:s.kind=3
 ·simp[k3]at h0;exact⟨.inr h0.1.2,.inr h0.2⟩
 simp[k0,k1,k2,k3]at h0
theorem akz_ {l:List Sl} {k:Nat} (h:k<l.length):tyN l (k+1)=tyN l k++(if (l.getD k S0).kind=1 then [(l.getD k S0).name]else []):=by
 unfold tyN
 rw[List.take_add_one,List.getElem?_eq_getElem h,List.filter_append,List.map_append,List.getD_eq_getElem?_getD,List.getElem?_eq_getElem h]
 by_cases e:l[k].kind=1<;>simp[e]
theorem aml_ {l:List Sl} {k:Nat} (h:k<l.length):tyT l (k+1)=tyT l k++(if (l.getD k S0).kind=1 then [(l.getD k S0).type]else []):=by
 unfold tyT
 rw[List.take_add_one,List.getElem?_eq_getElem h,List.filter_append,List.map_append,List.getD_eq_getElem?_getD,List.getElem?_eq_getElem h]
 by_cases e:l[k].kind=1<;>simp[e]
theorem akv_ (l:List Sl) (k:Nat):(tyN l k).length=(tyT l k).length∧(tyN l k).length≤k:=by
 refine⟨by simp[tyN,tyT],?_⟩
 unfold tyN
 rw[List.length_map]
 exact Nat.le_trans (List.length_filter_le _ _) (by rw[List.length_take];omega)
attribute [local go_sem] af_ ah_ in
theorem ayw_ (d:Nat):∀(e:E) (N M:List Str),form e d=true→N.length=M.length→N.length≤1000000→ACall En 229 [.ag (eC e),.sl false (ai_ N),.sl false (ai_ M)] [] [.s (l5_ N M e)] []:=by
 induction d with
 |zero=>intro e N M h;have:=(aj_ h).1;omega
 |succ d ih=>
 intro e N M h hl hn
 have e1:((d+1:Nat):Int) - 1=(d:Int):=by omega
 have g3:e.kind=3→e.kids.length=2∧form (e.kids.getD 0 E0) d=true∧form (e.kids.getD 1 E0) d=true∧fn_ e.s=true:=fun hk=>by
  rcases (aj_ h).2 with⟨k1,_⟩|⟨k1,_⟩|⟨k1,h1,h2,h3,h4,h5⟩|⟨k1,_⟩<;>try omega
  rw[e1]at h4 h5;exact⟨h3,h4,h5,h2⟩
 have g4:e.kind=4→e.kids.length=1∧form (e.kids.getD 0 E0) d=true:=fun hk=>by
  rcases (aj_ h).2 with⟨k1,_⟩|⟨k1,_⟩|⟨k1,_⟩|⟨k1,h1,h2,h3,h4⟩<;>try omega
  rw[e1]at h4;exact⟨h3,h4⟩
 have g0:¬e.kind=1→¬e.kind=2→¬e.kind=4→e.kind=3:=fun a b c=>by
  rcases (aj_ h).2 with⟨k1,_⟩|⟨k1,_⟩|⟨k1,_⟩|⟨k1,_⟩<;>omega
 have hb:=py_ N e.s
 have T:=ak0_ N M e
 have G:=fun a b c=>(g3 (g0 a b c))
 refine aa_ [] Tryz.func229 Tryz.ntmps229 fun C=>?_
 refine .seq (.rg [] ?_)
 refine .seq (.seq (.rg [] ?_))
 refine .block (.seq (.rg [] ?_))
 refine .cB (fun h10=>?_) fun h10=>?_
 ·refine .seq (.rg [] ?_)
  refine .ret ⟨.inr rfl,Out.pP Tryz.results229 ?_⟩;rw[T,if_pos (by simpa using h10)];rfl
 refine .seq (.rg [] ?_)
 refine .cB (fun h12=>?_) fun h12=>?_
 ·refine .seq (.seq (.rg [ab_ (arx_ N e.s (by omega))] ?_))
  refine .seq (.rg [] ?_)
  refine .cB (fun h19=>?_) fun h19=>?_
  ·refine .seq (.rgo [] ?_ ?_ (h:=by simp only[go_sem,seval,an_ (show(fj_ N e.s).toNat<M.length by simp at h19;omega)];rfl))
   ·simp at h19;(try simp);omega
   refine .ret ⟨.inr rfl,Out.pP Tryz.results229 ?_⟩;rw[T,if_neg (by simpa using h10),if_pos (by simpa using h12),if_pos (by simpa using h19)]
  refine .skip (.seq (.rg [] ?_))
  refine .ret ⟨.inr rfl,Out.pP Tryz.results229 ?_⟩;rw[T,if_neg (by simpa using h10),if_pos (by simpa using h12),if_neg (by simpa using h19)]
 refine .seq (.rg [] ?_)
 refine .cB (fun h24=>?_) fun h24=>?_
 ·refine .seq (.seq (.rgo [ab_ (ih (e.kids.getD 0 E0) N M (g4 (by simpa using h24)).2 hl hn)] ?_ ?_ (h:=by simp only[go_sem,seval,b8_ (show 0<e.kids.length by have:=g4 (by simpa using h24);omega)];rfl)))
  ·have:=g4 (by simpa using h24);simp;omega
  refine .cB (fun h33=>?_) fun h33=>?_
  ·refine .seq (.rg [] ?_)
   refine .ret ⟨.inr rfl,Out.pP Tryz.results229 ?_⟩;rw[T,if_neg (by simpa using h10),if_neg (by simpa using h12),if_pos (by simpa using h24),gp_ (by have:=g4 (by simpa using h24);omega),if_pos (by simpa using h33)]
  refine .skip (.seq (.rg [] ?_))
  refine .ret ⟨.inr rfl,Out.pP Tryz.results229 ?_⟩;rw[T,if_neg (by simpa using h10),if_neg (by simpa using h12),if_pos (by simpa using h24),gp_ (by have:=g4 (by simpa using h24);omega),if_neg (by simpa using h33)]
 refine .skip (.seq (.seq (.rgo [ab_ (ih (e.kids.getD 0 E0) N M (G (by simpa using h10) (by simpa using h12) (by simpa using h24)).2.1 hl hn),ab_ (ih (e.kids.getD 1 E0) N M (G (by simpa using h10) (by simpa using h12) (by simpa using h24)).2.2.1 hl hn)] ?_ ?_ (h:=by simp only[go_sem,seval,b8_ (show 0<e.kids.length by have:=G (by simpa using h10) (by simpa using h12) (by simpa using h24);omega),b8_ (show 1<e.kids.length by have:=G (by simpa using h10) (by simpa using h12) (by simpa using h24);omega)];rfl))))
 ·have:=G (by simpa using h10) (by simpa using h12) (by simpa using h24);exact⟨⟨by omega,fun q=>⟨q,by omega⟩⟩,fun q=>by rw[q];rfl⟩
 refine .cB (fun h53=>?_) fun h53=>?_
 ·refine .seq (.rg [] ?_)
  refine .ret ⟨.inr rfl,Out.pP Tryz.results229 ?_⟩;have q:=G (by simpa using h10) (by simpa using h12) (by simpa using h24);rw[T,if_neg (by simpa using h10),if_neg (by simpa using h12),if_neg (by simpa using h24),gp_ (by omega),mr_ (by omega),if_neg (fun q2=>by rw[q2.1,q2.2]at h53;revert h53;decide)]
 refine .skip (.seq (.seq (.rg [] ?_)))
 refine .cB (fun h56=>?_) fun h56=>?_
 ·refine .seq (.rg [] ?_)
  refine .ret ⟨.inr rfl,Out.pP Tryz.results229 ?_⟩;have q:=G (by simpa using h10) (by simpa using h12) (by simpa using h24);simp only[Bool.or_eq_false_iff,Bool.not_eq_false',beq_iff_eq]at h53;rw[T,if_neg (by simpa using h10),if_neg (by simpa using h12),if_neg (by simpa using h24),gp_ (by omega),mr_ (by omega),if_pos (show l5_ N M (e.kids.getD 0 E0)=nm_∧l5_ N M (e.kids.getD 1 E0)=nm_ from h53),if_pos (by simpa using h56)];rfl
 refine .skip (.seq (.rg [] ?_))
 refine .ret ⟨.inr rfl,Out.pP Tryz.results229 ?_⟩;have q:=G (by simpa using h10) (by simpa using h12) (by simpa using h24);simp only[Bool.or_eq_false_iff,Bool.not_eq_false',beq_iff_eq]at h53;rw[T,if_neg (by simpa using h10),if_neg (by simpa using h12),if_neg (by simpa using h24),gp_ (by omega),mr_ (by omega),if_pos (show l5_ N M (e.kids.getD 0 E0)=nm_∧l5_ N M (e.kids.getD 1 E0)=nm_ from h53),if_neg (by simpa using h56)];rfl
attribute [local go_sem] af_ ah_ in
theorem ahb_ (d:Nat):∀(e:E) (N M:List Str),form e d=true→N.length=M.length→N.length≤1000000→ACall En 247 [.ag (eC e),.sl false (ai_ N),.sl false (ai_ M)] [] [.s (l5_ N M e)] []:=by
 induction d with
 |zero=>intro e N M h;have:=(aj_ h).1;omega
 |succ d ih=>
 intro e N M h hl hn
 have e1:((d+1:Nat):Int) - 1=(d:Int):=by omega
 have g3:e.kind=3→e.kids.length=2∧form (e.kids.getD 0 E0) d=true∧form (e.kids.getD 1 E0) d=true∧fn_ e.s=true:=fun hk=>by
  rcases (aj_ h).2 with⟨k1,_⟩|⟨k1,_⟩|⟨k1,h1,h2,h3,h4,h5⟩|⟨k1,_⟩<;>try omega
  rw[e1]at h4 h5;exact⟨h3,h4,h5,h2⟩
 have g4:e.kind=4→e.kids.length=1∧form (e.kids.getD 0 E0) d=true:=fun hk=>by
  rcases (aj_ h).2 with⟨k1,_⟩|⟨k1,_⟩|⟨k1,_⟩|⟨k1,h1,h2,h3,h4⟩<;>try omega
  rw[e1]at h4;exact⟨h3,h4⟩
 have g0:¬e.kind=1→¬e.kind=2→¬e.kind=4→e.kind=3:=fun a b c=>by
  rcases (aj_ h).2 with⟨k1,_⟩|⟨k1,_⟩|⟨k1,_⟩|⟨k1,_⟩<;>omega
 have hb:=py_ N e.s
 have T:=ak0_ N M e
 have G:=fun a b c=>(g3 (g0 a b c))
 refine aa_ [] Tryz.func247 Tryz.ntmps247 fun C=>?_
 refine .seq (.rg [] ?_)
 refine .seq (.seq (.rg [] ?_))
 refine .block (.seq (.rg [] ?_))
 refine .cB (fun h10=>?_) fun h10=>?_
 ·refine .seq (.rg [] ?_)
  refine .ret ⟨.inr rfl,Out.pP Tryz.results247 ?_⟩;rw[T,if_pos (by simpa using h10)];rfl
 refine .seq (.rg [] ?_)
 refine .cB (fun h12=>?_) fun h12=>?_
 ·refine .seq (.rg [ab_ (amg_ N e.s (by omega))] ?_)
  refine .seq (.seq (.rg [] ?_))
  refine .cB (fun h19=>?_) fun h19=>?_
  ·refine .seq (.rg [] ?_)
   refine .ret ⟨.inr rfl,Out.pP Tryz.results247 ?_⟩;rw[T,if_neg (by simpa using h10),if_pos (by simpa using h12),if_neg (by simpa using h19)]
  refine .skip (.seq (.rgo [] ?_ ?_ (h:=by simp only[go_sem,seval,an_ (show(fj_ N e.s).toNat<M.length by simp at h19;omega)];rfl)))
  ·simp at h19;(try simp);omega
  refine .ret ⟨.inr rfl,Out.pP Tryz.results247 ?_⟩;rw[T,if_neg (by simpa using h10),if_pos (by simpa using h12),if_pos (by simpa using h19)]
 refine .seq (.rg [] ?_)
 refine .cB (fun h24=>?_) fun h24=>?_
 ·refine .seq (.seq (.rgo [ab_ (ih (e.kids.getD 0 E0) N M (g4 (by simpa using h24)).2 hl hn)] ?_ ?_ (h:=by simp only[go_sem,seval,b8_ (show 0<e.kids.length by have:=g4 (by simpa using h24);omega)];rfl)))
  ·have:=g4 (by simpa using h24);simp;omega
  refine .cB (fun h33=>?_) fun h33=>?_
  ·refine .seq (.rg [] ?_)
   refine .ret ⟨.inr rfl,Out.pP Tryz.results247 ?_⟩;rw[T,if_neg (by simpa using h10),if_neg (by simpa using h12),if_pos (by simpa using h24),gp_ (by have:=g4 (by simpa using h24);omega),if_pos (by simpa using h33)]
  refine .skip (.seq (.rg [] ?_))
  refine .ret ⟨.inr rfl,Out.pP Tryz.results247 ?_⟩;rw[T,if_neg (by simpa using h10),if_neg (by simpa using h12),if_pos (by simpa using h24),gp_ (by have:=g4 (by simpa using h24);omega),if_neg (by simpa using h33)]
 refine .skip (.seq (.seq (.rgo [ab_ (ih (e.kids.getD 0 E0) N M (G (by simpa using h10) (by simpa using h12) (by simpa using h24)).2.1 hl hn),ab_ (ih (e.kids.getD 1 E0) N M (G (by simpa using h10) (by simpa using h12) (by simpa using h24)).2.2.1 hl hn)] ?_ ?_ (h:=by simp only[go_sem,seval,b8_ (show 0<e.kids.length by have:=G (by simpa using h10) (by simpa using h12) (by simpa using h24);omega),b8_ (show 1<e.kids.length by have:=G (by simpa using h10) (by simpa using h12) (by simpa using h24);omega)];rfl))))
 ·have:=G (by simpa using h10) (by simpa using h12) (by simpa using h24);exact⟨⟨by omega,fun q=>⟨q,by omega⟩⟩,fun q=>by rw[q];rfl⟩
 refine .cB (fun h53=>?_) fun h53=>?_
 ·refine .seq (.rg [] ?_)
  refine .ret ⟨.inr rfl,Out.pP Tryz.results247 ?_⟩;have q:=G (by simpa using h10) (by simpa using h12) (by simpa using h24);rw[T,if_neg (by simpa using h10),if_neg (by simpa using h12),if_neg (by simpa using h24),gp_ (by omega),mr_ (by omega),if_neg (fun q2=>by rw[q2.1,q2.2]at h53;revert h53;decide)]
 refine .skip (.seq (.seq (.rg [] ?_)))
 refine .cB (fun h56=>?_) fun h56=>?_
 ·refine .seq (.rg [] ?_)
  refine .ret ⟨.inr rfl,Out.pP Tryz.results247 ?_⟩;have q:=G (by simpa using h10) (by simpa using h12) (by simpa using h24);simp only[Bool.or_eq_false_iff,Bool.not_eq_false',beq_iff_eq]at h53;rw[T,if_neg (by simpa using h10),if_neg (by simpa using h12),if_neg (by simpa using h24),gp_ (by omega),mr_ (by omega),if_pos (show l5_ N M (e.kids.getD 0 E0)=nm_∧l5_ N M (e.kids.getD 1 E0)=nm_ from h53),if_pos (by simpa using h56)];rfl
 refine .skip (.seq (.rg [] ?_))
 refine .ret ⟨.inr rfl,Out.pP Tryz.results247 ?_⟩;have q:=G (by simpa using h10) (by simpa using h12) (by simpa using h24);simp only[Bool.or_eq_false_iff,Bool.not_eq_false',beq_iff_eq]at h53;rw[T,if_neg (by simpa using h10),if_neg (by simpa using h12),if_neg (by simpa using h24),gp_ (by omega),mr_ (by omega),if_pos (show l5_ N M (e.kids.getD 0 E0)=nm_∧l5_ N M (e.kids.getD 1 E0)=nm_ from h53),if_neg (by simpa using h56)];rfl
attribute [local go_sem] ah_ in
theorem agz_ (e:E) (N M:List Str) (h:g1_ e=true∨eok e=true) (hs:sm e=true) (hl:N.length=M.length) (hn:N.length≤1000000):ACall En 161 [.ag (eC e),.sl false (ai_ N),.sl false (ai_ M)] [] [.s (typO N M e)] []:=by
 refine aa_ [] Tryz.func161 Tryz.ntmps161 fun C=>?_
 refine .seq (.rg [] ?_)
 refine .seq (.seq (.rg [ab_ (fb_ e hs)] ?_))
 refine .cB (fun h8=>?_) fun h8=>?_
 ·refine .seq (.rg [] ?_)
  refine .ret ⟨.inr rfl,Out.pP Tryz.results161 ?_⟩;unfold typO;rw[if_pos h8]
 refine .skip (.seq (.rgo [a0_ (eok e=true) (fun h=>ayw_ 5 e N M (ao_ h) hl hn)] ?_ ?_))
 ·exact h.resolve_left (by simpa using h8)
 refine .ret ⟨.inr rfl,Out.pP Tryz.results161 ?_⟩;unfold typO;rw[if_neg (by simpa using h8)]
attribute [local go_sem] a9_ ah_ in
theorem a28_ (s:Sl) (h:sok s=true) (N M:List Str) (hl:N.length=M.length) (hn:N.length≤1000000):ACall En 192 [.ag (sC s),.sl false (ai_ N),.sl false (ai_ M)] [] [.b (xm_ N M s)] []:=by
 have hk:=af4_ h
 have X:s.kind≠0→eok s.expr=true:=fun k=>mk_ h k
 have Y:s.kind=3→eok s.thn=true:=fun k=>o5_ h k
 refine aa_ [] Tryz.func192 Tryz.ntmps192 fun C=>?_
 refine .seq (.rg [] ?_)
 refine .seq (.seq (.rg [] ?_))
 refine .cB (fun h10=>?_) fun h10=>?_
 ·refine .seq (.rg [] ?_)
  refine .ret ⟨.inr rfl,Out.pP Tryz.results192 ?_⟩;simp at h10;simp[xm_,h10]
 refine .skip (.seq (.rgo [a0_ (s.kind≠0) (fun k=>ahb_ 5 s.expr N M (ao_ (X k)) hl hn)] ?_ ?_))
 ·simpa using h10
 refine .seq (.seq (.rg [] ?_))
 refine .block (.seq (.rg [] ?_))
 refine .cB (fun h18=>?_) fun h18=>?_
 ·refine .seq (.rg [] ?_)
  refine .ret ⟨.inr rfl,Out.pP Tryz.results192 ?_⟩;simp at h10 h18;simp[xm_,h18,oi_ (X h10)]
 refine .seq (.rg [] ?_)
 refine .cB (fun h24=>?_) fun h24=>?_
 ·refine .seq (.rg [] ?_)
  refine .ret ⟨.inr rfl,Out.pP Tryz.results192 ?_⟩;simp at h10 h18 h24;simp[xm_,h24,oi_ (X h10)]
 refine .seq (.rg [] ?_)
 refine .cB (fun h28=>?_) fun h28=>?_
 ·refine .seq (.rgo [a0_ (s.kind=3) (fun k=>ahb_ 5 s.thn N M (ao_ (Y k)) hl hn)] ?_ ?_)
  ·simp at h28;exact fun q=>⟨q,h28⟩
  refine .ret ⟨.inr rfl,Out.pP Tryz.results192 ?_⟩;simp at h10 h18 h24 h28;simp[xm_,h28,oi_ (X h10),oi_ (Y h28),akr_]
 refine .skip (.seq (.rg [] ?_))
 refine .ret ⟨.inr rfl,Out.pP Tryz.results192 ?_⟩;simp at h10 h18 h24 h28;omega
theorem ace_ {l:List Sl} {k:Nat} (h:k<l.length) (hk:(l.getD k S0).kind=1):tyN l (k+1)=tyN l k++[(l.getD k S0).name]∧tyT l (k+1)=tyT l k++[(l.getD k S0).type]:=by
 rw[akz_ h,aml_ h,if_pos hk,if_pos hk];exact⟨rfl,rfl⟩
theorem lt_ {l:List Sl} {k:Nat} (h:k<l.length) (hk:¬(l.getD k S0).kind=1):tyN l (k+1)=tyN l k∧tyT l (k+1)=tyT l k:=by
 rw[akz_ h,aml_ h,if_neg hk,if_neg hk];exact⟨List.append_nil _,List.append_nil _⟩
theorem z8_ {l:List Sl} {k:Nat} (hp:pok l=true) (hk:k<l.length) (h:l3_ l k=false) (ha:∀j,j<k→l3_ l j=true):g0_ l=k:=by
 unfold g0_
 rw[if_pos hp]
 have:(List.range l.length).find? (fun k=>!l3_ l k)=some k:=by
  rw[List.find?_range_eq_some]
  exact⟨by simp[h],by simpa using hk,fun j hj=>by simp[ha j hj]⟩
 rw[this]
theorem uf_ {l:List Sl} (hp:pok l=true) (ha:∀j,j<l.length→l3_ l j=true):g0_ l = -1:=by
 unfold g0_
 rw[if_pos hp]
 have:(List.range l.length).find? (fun k=>!l3_ l k)=none:=by
  rw[List.find?_eq_none]
  intro j hj;simp[ha j (by simpa using hj)]
 rw[this]
end
section
attribute [local go_sem] dy_ c3_ a9_ af_ ah_ aw_ a5_ in
theorem af6_ (l:List Sl) (hs:p5_ l=true) (hl:l.length<4611686018427387904):ACall En 92 [.sl false (sR l)] [] [.i .i64 (g0_ l)] []:=by
 have hT:=fun k=>(akv_ l k).1
 have hn:=fun k=>(akv_ l k).2
 have W:=fun k (hp:pok l=true) (h:k<l.length)=>aup_ ((bd_ hp).2.2 k h)
 have Sm:=fun k (h:k<l.length)=>(gl_ (aal_ hs h)).2.2
 refine aa_ [] Tryz.func92 Tryz.ntmps92 fun C=>?_
 refine .seq (.rg [] ?_)
 refine .seq (.seq (.rg [ab_ (r5_ l hs hl)] ?_))
 refine .cB (fun h12=>?_) fun h12=>?_
 ·refine .seq (.rg [] ?_)
  refine .ret ⟨.inr rfl,Out.pP Tryz.results92 ?_⟩;simp at h12;simp[g0_,h12]
 refine .skip (.seq (.rg [] ?_))
 refine .seq (.seq (.rg [] ?_))
 refine .block (.loopK (fun k:Nat=>⟨[.no,.no,.no,.ow 20 1 0 (tyN l k).length,.ow 21 1 0 (tyT l k).length,.no,.no,.no,.no,.no,.no,.no,.no,.sl false (sR l),.i .i64 l.length,.i .i64 k,.no,.no,.no,.no,.no,.no,.no,.no,.no,.no,.no,.no,.no,.no,.no,.no,.no,.no,.no,.no,.no,.no,.no,.no,.no,.no,.no,.no,.no,.no,.no,.no,.no,.no,.no,.no,.no,.no,.no,.no,.no,.no,.no,.no,.no,.no,.no,.no],ae_ [(20,⟨9,1,ai_ (tyN l k)⟩),(21,⟨9,1,ai_ (tyT l k)⟩)],us [20,21]⟩) (fun k:Nat=>k≤l.length∧pok l=true∧∀j,j<k→l3_ l j=true) (fun k:Nat=>l.length - k) (0) ?_ ?_ (fun k hI=>?_))
 ·exact⟨Nat.zero_le _,by simpa using h12,fun j hj=>absurd hj (by omega)⟩
 ·refine Can.trans (Can.ownSlot 3 20 9 1 (by simp only[go_sem,seval]<;>rfl) (by simp only[go_sem,seval]) (by simp only[go_sem,seval]<;>rfl)) ?_
  refine Can.trans (Can.ownSlot 4 21 9 1 (by simp only[go_sem,seval]<;>rfl) (by simp only[go_sem,seval]) (by simp only[go_sem,seval]<;>rfl)) ?_
  refine Can.wk ?_ ?_
  ·exact⟨rfl,rfl⟩
  exact⟨rfl,rfl⟩
 refine .seq (.rg [] ?_)
 refine .seq (.cB (fun h16=>?_) fun h16=>?_)
 ·refine .skip (.seq (.block (.seq (.rgo [] ?_ ?_ (h:=by simp only[go_sem,seval,j6_ (show k<l.length by simpa using h16),a9_];rfl)))))
  ·simp at h16;simp;omega
  refine .seq (.rgDo [kv_ (agz_ (l.getD k S0).expr (tyN l k) (tyT l k) (W k hI.2.1 (by simpa using h16)).1 (Sm k (by simpa using h16)).1 (hT k) (by have:=hn k;have:=(bd_ hI.2.1).2.1;omega)),kv_ (agz_ (l.getD k S0).thn (tyN l k) (tyT l k) (W k hI.2.1 (by simpa using h16)).2 (Sm k (by simpa using h16)).2 (hT k) (by have:=hn k;have:=(bd_ hI.2.1).2.1;omega))] ?_ ?_)
  ·rw[List.take_of_length_le (by rw[af_];exact Nat.le_refl _),List.take_of_length_le (by rw[af_];exact Nat.le_refl _)];exact⟨ad_ _,ad_ _⟩
  refine .seq (.rg [] ?_)
  refine .seqJ (fun u:Unit=>⟨[.no,.no,.no,.ow 20 1 0 (tyN l (k+1)).length,.ow 21 1 0 (tyT l (k+1)).length,.i .i64 k,.no,.no,.no,.b (l3_ l k),.no,.no,.no,.sl false (sR l),.i .i64 l.length,.i .i64 k,.no,.no,.no,.no,.no,.no,.no,.no,.no,.no,.no,.no,.no,.no,.no,.no,.no,.no,.no,.no,.no,.no,.no,.no,.no,.no,.no,.no,.no,.no,.no,.no,.no,.no,.no,.no,.no,.no,.no,.no,.no,.no,.no,.no,.no,.no,.no,.no],ae_ [(20,⟨9,1,ai_ (tyN l (k+1))⟩),(21,⟨9,1,ai_ (tyT l (k+1))⟩)],us [20,21]⟩) (fun u:Unit=>k<l.length) ?_ (fun u hJ=>?_)
  ·refine .seq (.rg [] ?_)
   refine .block (.seq (.rg [] ?_))
   refine .cB (fun h32=>?_) fun h32=>?_
   ·refine .seq (.rg [] ?_)
    refine .rgDo [] ?_ ?_
    ·have:=hn k;have:=hT k;have:=(bd_ hI.2.1).2.1;exact⟨⟨fun r hr=>by simp at hr;subst hr;rfl,by simp,by omega⟩,fun r hr=>by simp at hr;subst hr;rfl,by simp,by omega⟩
    refine Exists.intro (()) ⟨?_,?_⟩
    ·simpa using h16
    refine Can.trans (Can.sX 52 20) ?_
    refine Can.trans (Can.sX 57 21) ?_
    refine Can.wk ?_ ?_
    ·(have q:(l.getD k S0).kind=1:=(by simpa using h32);have e:=ace_ (by simpa using h16) q;rw[e.1,e.2];refine⟨by simp,by simp,?_⟩;unfold l3_ xm_;rw[if_pos q])
    (have q:(l.getD k S0).kind=1:=(by simpa using h32);have e:=ace_ (by simpa using h16) q;rw[e.1,e.2,fr_,fr_];exact⟨rfl,rfl⟩)
   refine .seq (.rg [] ?_)
   refine .cB (fun h48=>?_) fun h48=>?_
   ·refine .rg [] ?_
    refine Exists.intro (()) ⟨?_,?_⟩
    ·simpa using h16
    refine Can.wk ?_ ?_
    ·(have q:¬(l.getD k S0).kind=1:=(by simpa using h32);have e:=lt_ (by simpa using h16) q;rw[e.1,e.2];refine⟨rfl,rfl,?_⟩;unfold l3_ xm_;rw[if_neg q];first|(rw[if_pos (by simpa using h48)];done)|(rw[if_neg (by simpa using h48),if_pos (by simpa using h52)];rfl)|(rw[if_neg (by simpa using h48),if_neg (by simpa using h52)];done))
    (have q:¬(l.getD k S0).kind=1:=(by simpa using h32);have e:=lt_ (by simpa using h16) q;rw[e.1,e.2];exact⟨rfl,rfl⟩)
   refine .seq (.rg [] ?_)
   refine .cB (fun h52=>?_) fun h52=>?_
   ·refine .rg [] ?_
    refine Exists.intro (()) ⟨?_,?_⟩
    ·simpa using h16
    refine Can.wk ?_ ?_
    ·(have q:¬(l.getD k S0).kind=1:=(by simpa using h32);have e:=lt_ (by simpa using h16) q;rw[e.1,e.2];refine⟨rfl,rfl,?_⟩;unfold l3_ xm_;rw[if_neg q];first|(rw[if_pos (by simpa using h48)];done)|(rw[if_neg (by simpa using h48),if_pos (by simpa using h52)];rfl)|(rw[if_neg (by simpa using h48),if_neg (by simpa using h52)];done))
    (have q:¬(l.getD k S0).kind=1:=(by simpa using h32);have e:=lt_ (by simpa using h16) q;rw[e.1,e.2];exact⟨rfl,rfl⟩)
   refine .skip ?_
   refine Exists.intro (()) ⟨?_,?_⟩
   ·simpa using h16
   refine Can.wk ?_ ?_
   ·(have q:¬(l.getD k S0).kind=1:=(by simpa using h32);have e:=lt_ (by simpa using h16) q;rw[e.1,e.2];refine⟨rfl,rfl,?_⟩;unfold l3_ xm_;rw[if_neg q];first|(rw[if_pos (by simpa using h48)];done)|(rw[if_neg (by simpa using h48),if_pos (by simpa using h52)];rfl)|(rw[if_neg (by simpa using h48),if_neg (by simpa using h52)];done))
   (have q:¬(l.getD k S0).kind=1:=(by simpa using h32);have e:=lt_ (by simpa using h16) q;rw[e.1,e.2];exact⟨rfl,rfl⟩)
  refine .seq (.rg [] ?_)
  refine .cB (fun h61=>?_) fun h61=>?_
  ·refine .seq (.rg [] ?_)
   refine .ret ⟨.inr rfl,Out.pP Tryz.results92 ?_⟩;rw[z8_ hI.2.1 (by simpa using h16) (by simpa using h61) hI.2.2]
  refine .skip (.rg [] ?_)
  refine⟨k+1,?_,?_,?_⟩
  ·simp at h16 h61;exact⟨by omega,hI.2.1,fun j hj=>by by_cases e:j=k;(subst e;exact h61);exact hI.2.2 j (by omega)⟩
  ·simp at h16;omega
  refine Can.wk ?_ ?_
  ·rw[ac_ (by simp at h16;omega) (by simp at h16;omega)];simp
  trivial
 refine .exit (.seq (.rg [] ?_))
 refine .ret ⟨.inr rfl,Out.pP Tryz.results92 ?_⟩;simp only[decide_eq_false_iff_not]at h16;rw[uf_ hI.2.1 fun j hj=>hI.2.2 j (by omega)]
attribute [local go_sem] dy_ c3_ a9_ af_ ah_ aw_ a5_ in
theorem afd_ (l:List Sl) (hs:p5_ l=true) (hl:l.length<4611686018427387904):ACall En 125 [.sl false (sR l)] [] [.i .i64 (g0_ l)] []:=by
 have hT:=fun k=>(akv_ l k).1
 have hn:=fun k=>(akv_ l k).2
 have W:=fun k (hp:pok l=true) (h:k<l.length)=>(bd_ hp).2.2 k h
 refine aa_ [] Tryz.func125 Tryz.ntmps125 fun C=>?_
 refine .seq (.rg [] ?_)
 refine .seq (.seq (.rg [ab_ (rr_ l hs hl)] ?_))
 refine .cB (fun h8=>?_) fun h8=>?_
 ·refine .seq (.rg [] ?_)
  refine .ret ⟨.inr rfl,Out.pP Tryz.results125 ?_⟩;simp at h8;simp[g0_,h8]
 refine .skip (.seq (.rg [] ?_))
 refine .seq (.rg [] ?_)
 refine .seq (.seq (.rg [] ?_))
 refine .block (.loopK (fun k:Nat=>⟨[.sl false (sR l),.no,.no,.ow 20 1 0 (tyN l k).length,.ow 21 1 0 (tyT l k).length,.i .i64 k,.no,.no,.no,.no,.no,.no,.no,.no,.no,.no,.no,.no,.no,.no,.no,.no,.no,.no,.no,.no,.no,.no,.no,.no,.no,.no,.no,.no,.no,.no,.no,.no,.no,.no,.no,.no,.no,.no,.no,.no,.no,.no],ae_ [(20,⟨9,1,ai_ (tyN l k)⟩),(21,⟨9,1,ai_ (tyT l k)⟩)],us [20,21]⟩) (fun k:Nat=>k≤l.length∧pok l=true∧∀j,j<k→l3_ l j=true) (fun k:Nat=>l.length - k) (0) ?_ ?_ (fun k hI=>?_))
 ·exact⟨Nat.zero_le _,by simpa using h8,fun j hj=>absurd hj (by omega)⟩
 ·refine Can.trans (Can.ownSlot 3 20 9 1 (by simp only[go_sem,seval]<;>rfl) (by simp only[go_sem,seval]) (by simp only[go_sem,seval]<;>rfl)) ?_
  refine Can.trans (Can.ownSlot 4 21 9 1 (by simp only[go_sem,seval]<;>rfl) (by simp only[go_sem,seval]) (by simp only[go_sem,seval]<;>rfl)) ?_
  refine Can.wk ?_ ?_
  ·exact⟨rfl,rfl⟩
  exact⟨rfl,rfl⟩
 refine .seq (.seq (.rg [] ?_))
 refine .cB (fun h14=>?_) fun h14=>?_
 ·refine .skip (.seqJ (fun u:Unit=>⟨[.sl false (sR l),.no,.no,.ow 20 1 0 (tyN l (k+1)).length,.ow 21 1 0 (tyT l (k+1)).length,.i .i64 k,.no,.no,.no,.no,.no,.no,.no,.no,.no,.no,.no,.no,.no,.no,.no,.no,.no,.no,.no,.no,.no,.no,.no,.no,.no,.no,.no,.no,.no,.no,.no,.no,.no,.no,.no,.no,.no,.no,.no,.no,.no,.no],ae_ [(20,⟨9,1,ai_ (tyN l (k+1))⟩),(21,⟨9,1,ai_ (tyT l (k+1))⟩)],us [20,21]⟩) (fun u:Unit=>l3_ l k=true) ?_ (fun u hJ=>?_))
  ·refine .block (.seq (.seq (.rgo [kv_ (a28_ (l.getD k S0) (W k hI.2.1 (by simpa using h14)) (tyN l k) (tyT l k) (hT k) (by have:=hn k;have:=(bd_ hI.2.1).2.1;omega))] ?_ ?_ (h:=by simp only[go_sem,seval,j6_ (show k<l.length by simpa using h14),a9_];rfl))))
   ·simp at h14;rw[List.take_of_length_le (by rw[af_];exact Nat.le_refl _),List.take_of_length_le (by rw[af_];exact Nat.le_refl _)];exact⟨by omega,ad_ _,ad_ _⟩
   refine .cB (fun h24=>?_) fun h24=>?_
   ·refine .seq (.rg [] ?_)
    refine .ret ⟨.inr rfl,Out.pP Tryz.results125 ?_⟩;rw[z8_ hI.2.1 (by simpa using h14) (by simpa[l3_]using h24) hI.2.2]
   refine .skip (.seq (.rgo [] ?_ ?_ (h:=by simp only[go_sem,seval,j6_ (show k<l.length by simpa using h14),a9_];rfl)))
   ·simp at h14;omega
   refine .cB (fun h31=>?_) fun h31=>?_
   ·refine .seq (.rgo [] ?_ ?_ (h:=by simp only[go_sem,seval,j6_ (show k<l.length by simpa using h14),a9_];rfl))
    ·simp at h14;have:=hn k;have:=hT k;have:=(bd_ hI.2.1).2.1;exact⟨by omega,fun r hr=>by simp at hr;subst hr;rfl,by simp,by omega⟩
    refine .rgo [] ?_ ?_ (h:=by simp only[go_sem,seval,j6_ (show k<l.length by simpa using h14),a9_];rfl)
    ·simp at h14;have:=hn k;have:=hT k;have:=(bd_ hI.2.1).2.1;exact⟨by omega,fun r hr=>by simp at hr;subst hr;rfl,by simp,by omega⟩
    refine Exists.intro (()) ⟨?_,?_⟩
    ·simpa[l3_]using h24
    refine Can.trans (Can.sX 49 20) ?_
    refine Can.trans (Can.sX 57 21) ?_
    refine Can.wk ?_ ?_
    ·(have q:(l.getD k S0).kind=1:=(by simpa using h31);have e:=ace_ (by simpa using h14) q;rw[e.1,e.2];simp;done)
    (have q:(l.getD k S0).kind=1:=(by simpa using h31);have e:=ace_ (by simpa using h14) q;rw[e.1,e.2,fr_,fr_];exact⟨rfl,rfl⟩)
   refine .skip ?_
   refine Exists.intro (()) ⟨?_,?_⟩
   ·simpa[l3_]using h24
   refine Can.wk ?_ ?_
   ·(have q:¬(l.getD k S0).kind=1:=(by simpa using h31);have e:=lt_ (by simpa using h14) q;rw[e.1,e.2];simp;done)
   (have q:¬(l.getD k S0).kind=1:=(by simpa using h31);have e:=lt_ (by simpa using h14) q;rw[e.1,e.2];exact⟨rfl,rfl⟩)
  refine .rg [] ?_
  refine⟨k+1,?_,?_,?_⟩
  ·simp at h14;exact⟨by omega,hI.2.1,fun j hj=>by by_cases e:j=k;(subst e;exact hJ);exact hI.2.2 j (by omega)⟩
  ·simp at h14;omega
  refine Can.wk ?_ ?_
  ·rw[ac_ (by simp at h14;omega) (by simp at h14;omega)];simp
  trivial
 refine .exit (.seq (.rg [] ?_))
 refine .ret ⟨.inr rfl,Out.pP Tryz.results125 ?_⟩;simp only[decide_eq_false_iff_not]at h14;rw[uf_ hI.2.1 fun j hj=>hI.2.2 j (by omega)]
end
section
theorem a2v_ {l:List Sl} (h:16<l.length):pok l=false:=by unfold pok;rw[show decide (l.length≤16)=false by simpa using h];simp
attribute [local go_sem] af_ ah_ c3_ dy_ a9_ aw_ in
theorem ao7_ (ls:List Str) (hM:∀w∈ls,w.length≤4000) (hL:ls.length≤1000000):ACall En 190 [.sl false (ai_ ls)] [] [.sl false (sR (if l0_ ls&&pok (ls.map f2_)then ls.map f2_ else [])),.b (l0_ ls&&pok (ls.map f2_))] []:=by
 have hst:∀k,k<ls.length→((ls.take (k+1)).map f2_)=((ls.take k).map f2_)++[(ch_ (ls.getD k [])).getD S0]:=fun k h=>by
  rw[List.take_add_one,List.getElem?_eq_getElem h,List.getD_eq_getElem?_getD,List.getElem?_eq_getElem h,List.map_append];rfl
 refine aa_ [] Tryz.func190 Tryz.ntmps190 fun C=>?_
 refine .seq (.rg [] ?_)
 refine .seq (.rg [] ?_)
 refine .seq (.seq (.rg [] ?_))
 refine .block (.loopK (fun k:Nat=>⟨[.sl false (ai_ ls),.no,.no,.no,.ow 80 11 0 k,.i .i64 k,.no,.no,.no,.no,.no,.no,.no,.no,.no,.no,.no,.no,.no,.no,.no,.no,.no,.no,.no,.no,.no,.no,.no,.no,.no,.no,.no,.no,.no,.no,.no],ae_ [(80,⟨58,11,sR ((ls.take k).map f2_)⟩)],us [80]⟩) (fun k:Nat=>k≤ls.length∧l0_ (ls.take k)=true∧k≤17) (fun k:Nat=>ls.length - k) (0) ?_ ?_ (fun k hI=>?_))
 ·exact⟨Nat.zero_le _,rfl,by omega⟩
 ·refine Can.trans (Can.ownSlot 4 80 58 11 (by simp only[go_sem,seval]<;>rfl) (by simp only[go_sem,seval]) (by simp only[go_sem,seval]<;>rfl)) ?_
  refine Can.wk ?_ ?_
  ·trivial
  (try simp[sR])
 refine .seq (.seq (.rg [] ?_))
 refine .cB (fun h16=>?_) fun h16=>?_
 ·refine .skip (.seq (.block (.seq (.rgo [a0_ (k<ls.length) (fun h=>s5_ (ls.getD k []) (by have:=hM _ (ag_ (d:=[]) h);omega))] ?_ ?_ (h:=by simp only[go_sem,seval,an_ (show k<ls.length by simp at h16;exact h16.1)];rfl)))))
  ·simp at h16;simp;omega
  refine .seq (.seq (.rg [] ?_))
  refine .cB (fun h28=>?_) fun h28=>?_
  ·refine .seq (.rg [] ?_)
   refine .ret ⟨.inr rfl,Out.pQ Tryz.results190 ?_⟩;simp at h16;rw[ac8_ (k:=k) h16.1 (by simpa using h28)];exact⟨by simp[sR,ler],rfl⟩
  refine .skip (.rgo [] ?_ ?_)
  ·simp at h16;simp;omega
  refine .rg [] ?_
  refine⟨k+1,?_,?_,?_⟩
  ·simp at h16;refine⟨by omega,?_,by omega⟩;rw[w3_ h16.1,hI.2.1];simpa using h28
  ·simp at h16;omega
  refine Can.trans (Can.sX 42 80) ?_
  refine Can.wk ?_ ?_
  ·rw[ac_ (by simp at h16;omega) (by simp at h16;omega)];(try simp)
  rw[hst k (by simp at h16;exact h16.1)];simp[sR,a9_]
 refine .exit (.seq (.seq (.rgo [kv_ (rr_ ((ls.take k).map f2_) (jq_ (ls.take k)) (by simp;omega))] ?_ ?_)))
 ·have hk:=hI.1;simp[List.take_of_length_le,dy_,ad_];rw[if_pos (by omega),List.take_of_length_le (by rw[dy_,List.length_take];omega)];exact fv_ _
 refine .cB (fun h35=>?_) fun h35=>?_
 ·refine .seq (.rg [] ?_)
  refine .ret ⟨.inr rfl,Out.pQ Tryz.results190 ?_⟩;have e:=h35;simp only[Bool.not_eq_true']at e;have e2:pok (ls.map f2_)=false:=(by rcases Nat.lt_or_ge k ls.length with h|h;exact a2v_ (by simp at h16 ⊢;omega);rw[List.take_of_length_le h]at e;exact e);rw[e2,Bool.and_false];exact⟨by simp[sR,ler],rfl⟩
 refine .skip (.seq (.rg [] ?_))
 refine .fX 80 ?_
 refine .ret ⟨.inr rfl,Out.pQ Tryz.results190 ?_⟩;have e:=h35;simp only[Bool.not_eq_false']at e;have e3:=(bd_ e).2.1;simp at e3;have hk:ls.length≤k:=(by simp at h16;omega);have e4:=hI.2.1;rw[List.take_of_length_le hk]at e e4;rw[e,e4,List.take_of_length_le hk,if_pos (show k≤(ls.map f2_).length by simp;exact hI.1),if_pos (show(true&&true)=true from rfl),List.take_of_length_le (by rw[dy_];simp;omega)];exact⟨fv_ _,rfl⟩
attribute [local go_sem] ah_ c3_ in
theorem ae9_ (s:Str) (hs:s.length≤281474976710656):ACall En 124 [.s s] [] [.sl false (sR (prL s)),.b (prR s)] []:=by
 have hL:=e5_ s
 have hM:=hb_ s
 refine aa_ [] Tryz.func124 Tryz.ntmps124 fun C=>?_
 refine .seq (.rg [] ?_)
 refine .seq (.rg [ab_ (k9_ s hs),ab_ (ao7_ (bo_ s) (fun w hw=>by have:=hM w hw;omega) (by omega))] ?_)
 refine .ret ⟨.inr rfl,Out.pP Tryz.results124 ?_⟩;rfl
end
section
theorem qy_ {d:UInt8}:∀ {w:Str},d ∉ w→bx_ d w=[w]
 |[],_=>rfl
 |c::w,h=>by
  rw[bx_,if_neg (by rintro rfl;simp at h),qy_ (w:=w) fun q=>h (by simp[q])]
theorem wu_ {d:UInt8}:∀ {w:Str},d ∉ w→∀l,bx_ d (w++d::l)=w::bx_ d l
 |[],_,l=>by simp[bx_]
 |c::w,h,l=>by
  rw[List.cons_append,bx_,if_neg (by rintro rfl;simp at h),wu_ (w:=w) (fun q=>h (by simp[q])) l]
theorem afu_ {d:UInt8}:∀ {s:Str},Lib.indexByte s d = -1→d ∉ s
 |[],_=>by simp
 |b::l,h=>by
  have hg:=n8_ l d
  unfold Lib.indexByte at h
  split at h
  ·omega
  rename_i hb
  split at h
  ·rename_i h2
   have:=afu_ (s:=l) (by simpa using h2)
   simp only[List.mem_cons,not_or]
   exact⟨fun e=>hb (by simp[e]),this⟩
  omega
theorem amt_ {d:UInt8}:∀ {s:Str} {i:Nat},Lib.indexByte s d=i→d ∉ s.take i∧s=s.take i++d::s.drop (i+1)
 |[],i,h=>by simp[Lib.indexByte]at h
 |b::l,i,h=>by
  have hg:=n8_ l d
  unfold Lib.indexByte at h
  split at h
  ·rename_i hb
   obtain rfl:i=0:=by omega
   have:b=d:=by simpa using hb
   subst this;simp
  rename_i hb
  split at h
  ·omega
  rename_i h2
  have h2':Lib.indexByte l d≠ -1:=by simpa using h2
  obtain⟨j,hj⟩:∃j:Nat,Lib.indexByte l d=j:=⟨(Lib.indexByte l d).toNat,by omega⟩
  obtain rfl:i=j+1:=by omega
  obtain⟨q1,q2⟩:=amt_ (s:=l) hj
  refine⟨?_,?_⟩
  ·simp only[List.take_succ_cons,List.mem_cons,not_or]
   exact⟨fun e=>hb (by simp[e]),q1⟩
  simp only[List.take_succ_cons,List.drop_succ_cons,List.cons_append]
  rw[←q2]
theorem xs_ (d:UInt8):∀(n:Nat) (s:Str),s.length≤n→Lib.splitK [d] 0 (Lib.count s [d]) s=bx_ d s
 |0,s,h=>by
  obtain rfl:s=[]:=List.eq_nil_of_length_eq_zero (by omega)
  rfl
 |n+1,s,h=>by
  have hg:=Lib.index_ge s [d]
  have ho:Lib.index s [d]=Lib.indexByte s d:=Lib.index_one s d
  by_cases hm:Lib.index s [d] = -1
  ·rw[Lib.count_miss hm,qy_ (afu_ (ho ▸ hm))];rfl
  obtain⟨i,hi⟩:∃i:Nat,Lib.index s [d]=i:=⟨(Lib.index s [d]).toNat,by omega⟩
  obtain⟨q1,q2⟩:=amt_ (ho ▸ hi)
  rw[Lib.count_hit (by simp) hi,Nat.add_comm 1,Lib.splitK,if_neg (by simpa using hm),hi]
  simp only[Int.toNat_natCast,Nat.add_zero,List.length_cons,List.length_nil,Nat.zero_add]
  have hl:(s.drop (i+1)).length≤n:=by
   have:=congrArg List.length q2
   rw[List.length_append,List.length_cons]at this
   omega
  rw[xs_ d n (s.drop (i+1)) hl]
  conv=>rhs;rw[q2]
  rw[wu_ q1]
def kf_ (l:List Str):Nat:=(l.map fun w=>w.length+1).sum
theorem d4_ (w:Str) (l:List Str):kf_ (w::l)=w.length+1+kf_ l:=by simp[kf_]
theorem j7_ (d:UInt8):∀s:Str,kf_ (bx_ d s)=s.length+1
 |[]=>rfl
 |c::s=>by
  have ih:=j7_ d s
  rw[bx_]
  split
  ·rw[d4_,ih];simp;omega
  cases h:bx_ d s with
  |nil=>exact absurd h (ab1_ d s)
  |cons w r=>
   rw[h,d4_]at ih
   dsimp only
   rw[d4_];simp;omega
theorem adv_ (p:Str→Bool):∀l:List Str,kf_ (l.filter p)≤kf_ l
 |[]=>Nat.le_refl _
 |w::l=>by
  have:=adv_ p l
  rw[List.filter_cons]
  split
  ·rw[d4_,d4_];omega
  rw[d4_];omega
theorem zh_:∀(l:List Str) (k:Nat),kf_ (l.drop k)≤kf_ l
 |l,0=>Nat.le_refl _
 |[],k+1=>by simp
 |w::l,k+1=>by rw[List.drop_succ_cons,d4_];have:=zh_ l k;omega
theorem gu_:∀l:List Str,l.length≤kf_ l
 |[]=>Nat.le_refl _
 |w::l=>by rw[d4_];have:=gu_ l;simp only[List.length_cons];omega
theorem mh_:∀ {l:List Str} {w:Str},w∈l→w.length<kf_ l
 |[],_,h=>by cases h
 |a::l,w,h=>by
  rw[d4_]
  rcases List.mem_cons.1 h with rfl|h
  ·omega
  have:=mh_ h;omega
theorem af8_:∀l:List Str,(ap_ l).length≤kf_ l
 |[]=>Nat.le_refl _
 |[w]=>by rw[e6_,d4_];omega
 |w::x::l=>by
  have:=af8_ (x::l)
  rw[ef_,d4_,List.length_append,List.length_cons];omega
theorem zx_ (s:Str):kf_ (d2_ s)≤s.length+1:=Nat.le_trans (adv_ _ _) (Nat.le_of_eq (j7_ 32 s))
theorem zr_ (w:List Str) (k:Nat):(w.getD k []).length≤kf_ w:=by
 rcases Nat.lt_or_ge k w.length with h|h
 ·exact Nat.le_of_lt (mh_ (ag_ (d:=[]) h))
 rw[List.getD_eq_getElem?_getD,List.getElem?_eq_none h];simp
theorem ra_ (w:List Str) (k:Nat):(ap_ (w.drop k)).length≤kf_ w:=Nat.le_trans (af8_ _) (zh_ w k)
/-! numbers, a line each -/
def pk_ (l:List Int) (k:Nat):Str:=jt_ (l.take k)
theorem ahl_ {l:List Int} {k:Nat} (h:k<l.length):pk_ l (k+1)=pk_ l k++(Lib.itoa (l.getD k 0)++[10]):=by
 unfold pk_ jt_
 rw[List.take_add_one,List.getElem?_eq_getElem h,List.getD_eq_getElem?_getD,List.getElem?_eq_getElem h,List.map_append,List.flatten_append]
 simp
theorem ahk_ {l:List Int} {k:Nat} (h:l.length≤k):pk_ l k=jt_ l:=by unfold pk_;rw[List.take_of_length_le h]
theorem au5_:∀n:Nat,(Lib.decDigits n).length≤n+1:=fun n=>by
 induction n using Nat.strongRecOn with
 |ind n ih=>
  by_cases h:n<10
  ·rw[Lib.decDigits,dif_pos h];simp
  rw[co_ h,List.length_append]
  have:=ih (n / 10) (by omega)
  simp only[List.length_cons,List.length_nil];omega
def smI (n:Int):Prop:= -1000000≤n∧n≤1000000
theorem e8_ {n:Int} (h:smI n):(Lib.itoa n).length≤1000002:=by
 unfold smI at h
 unfold Lib.itoa
 split
 ·have:=au5_ n.natAbs;simp only[List.length_cons];omega
 have:=au5_ n.toNat;omega
def smL (l:List Int):Prop:=∀n∈l,smI n
theorem gs_:∀ {l:List Int},smL l→(jt_ l).length≤1000003 * l.length
 |[],_=>by simp[jt_]
 |n::l,h=>by
  have h1:=e8_ (h n (by simp))
  have h2:=gs_ (l:=l) fun m hm=>h m (by simp[hm])
  unfold jt_ at h2 ⊢
  simp only[List.map_cons,List.flatten_cons,List.length_append,List.length_cons,List.length_nil]
  omega
theorem aum_ {l:List Int} (h:smL l) (k:Nat):smL (l.take k):=fun n hn=>h n (List.mem_of_mem_take hn)
theorem akf_ {l:List Int} (h:smL l) (k:Nat):(pk_ l k).length≤1000003 * l.length:=by
 have:=gs_ (aum_ h k)
 have h2:(l.take k).length≤l.length:=by rw[List.length_take];omega
 have:=Nat.mul_le_mul_left 1000003 h2
 unfold pk_;omega
theorem k0_ {l:List Int} (h:smL l) {k:Nat} (hk:k<l.length):smI (l.getD k 0):=h _ (ag_ hk)
/-! what programs say is not too large -/
def a0c_ (b:Bl):Prop:=b.kind=0∨eok b.expr=true∧(b.kind=3→eok b.thn=true)
theorem awy_ {r:Rs} {b:Bl} (hb:a0c_ b) (h:smL r.said):smL (d0_ r b).said:=by
 unfold d0_
 split
 ·exact h
 split
 ·exact h
 rename_i k0
 split
 ·exact h
 split
 ·exact h
 split
 ·obtain⟨h1,h2⟩:=hb.resolve_left k0
  intro n hn
  dsimp only at hn
  rcases List.mem_append.1 hn with hn|hn
  ·exact h n hn
  simp only[List.mem_singleton]at hn
  subst hn
  unfold c2_
  split
  ·rename_i hk;exact ap5_ (h2 hk.2) _ _
  exact ap5_ h1 _ _
 exact h
theorem acl_:∀(l:List Bl) (r:Rs),(∀b∈l,a0c_ b)→smL r.said→smL (l.foldl d0_ r).said
 |[],_,_,h=>h
 |b::l,r,hb,h=>by rw[List.foldl_cons];exact acl_ l _ (fun x hx=>hb x (by simp[hx])) (awy_ (hb b (by simp)) h)
theorem ab6_ (l:List Sl):smL (f5_ l).1:=by
 unfold f5_
 split
 ·rename_i h
  refine acl_ _ _ (fun b hb=>?_) (fun n hn=>by cases hn)
  obtain⟨s,hs,rfl⟩:=List.mem_map.1 hb
  have hk:=List.all_eq_true.1 (acm_ h) s hs
  by_cases k0:s.kind=0
  ·exact .inl k0
  exact .inr ⟨mk_ hk k0,fun k=>o5_ hk k⟩
 intro n hn;cases hn
theorem ayp_ (l:List Bl):smL (jd_ l).1:=by
 unfold jd_
 split
 ·rename_i h
  refine acl_ _ _ (fun b hb=>?_) (fun n hn=>by cases hn)
  simp only[lok,Bool.and_eq_true]at h
  have hk:=List.all_eq_true.1 h.2 b hb
  by_cases k0:b.kind=0
  ·exact .inl k0
  exact .inr ⟨vz_ hk k0,fun k=>ab5_ hk k⟩
 intro n hn;cases hn
theorem acs_ (s:Str):smL (hm_ s).1:=by
 unfold hm_
 split
 ·exact ayp_ _
 intro n hn;cases hn
theorem amm_ {l:List Pg}:∀k,k≤16→smL (ge_ l k)
 |0,_=>fun n hn=>by cases hn
 |k+1,h=>fun n hn=>by
  rw[ge_]at hn
  rcases List.mem_append.1 hn with hn|hn
  ·exact amm_ k (by omega) n hn
  split at hn
  ·cases hn
  simp only[List.mem_singleton]at hn;subst hn;unfold smI;omega
theorem l9_ (l:List Pg):smL (ky_ l):=by
 unfold ky_
 split
 ·rename_i h;exact amm_ _ (b5_ h).2.1
 intro n hn;cases hn
theorem uo_ (l:List Sl):smI (g0_ l):=by
 unfold g0_ smI
 split
 ·rename_i h
  have:=(bd_ h).2.1
  split
  ·rename_i k hk
   have:=List.mem_range.1 (List.mem_of_find?_eq_some hk)
   omega
  omega
 omega
theorem r2_ (l:List Sl):(f5_ l).1.length≤16:=by
 unfold f5_
 split
 ·rename_i h
  have h2:=(bd_ h).2.1
  have:=(ph_ (l.map ofS) (l.map ofS).length (Nat.le_refl _)).2.2
  rw[List.take_length,List.length_map]at this
  dsimp only;omega
 simp
theorem r0_ (s:Str):(hm_ s).1.length≤16:=by
 unfold hm_ jd_
 split
 ·split
  ·rename_i h
   simp only[lok,Bool.and_eq_true,decide_eq_true_eq]at h
   have:=(ph_ ((bo_ s).map fun w=>(el_ w).getD B0) _ (Nat.le_refl _)).2.2
   rw[List.take_length]at this
   dsimp only;omega
  simp
 simp
end
section
def CutD (d:UInt8) (s:Str) (i:Nat) (p:Nat × List Str):Prop:=
 p.1≤i∧p.2.length≤i∧(i≤s.length→p.2++bx_ d (s.drop p.1)=bx_ d s∧d ∉ (s.drop p.1).take (i - p.1))∧(s.length<i→p.2=bx_ d s)
theorem ann_ (d:UInt8) (s:Str):CutD d s 0 (0,[]):=⟨Nat.le_refl _,Nat.le_refl _,fun _=>⟨rfl,by simp⟩,fun h=>absurd h (by omega)⟩
theorem arr_ {d:UInt8} {s:Str} {i:Nat} {p:Nat × List Str} (h:CutD d s i p) (hi:i≤s.length) (hc:i=s.length∨s.getD i 0=d):CutD d s (i+1) (i+1,p.2++[(s.drop p.1).take (i - p.1)]):=by
 obtain⟨h1,h2,h3, -⟩:=h
 obtain⟨h3,h4⟩:=h3 hi
 refine⟨Nat.le_refl _,by simp;omega,fun hl=>?_,fun hl=>?_⟩
 ·have h10:s.getD i 0=d:=by
   rcases hc with hc|hc
   ·omega
   exact hc
  refine⟨?_,by simp⟩
  rw[av5_ h1 (by omega),h10,wu_ h4]at h3
  dsimp only
  rw[List.append_assoc];exact h3
 have hil:i=s.length:=by omega
 have e:(s.drop p.1).take (i - p.1)=s.drop p.1:=List.take_of_length_le (by rw[List.length_drop];omega)
 rw[e]at h4 ⊢
 rw[qy_ h4]at h3
 exact h3
theorem aqt_ {d:UInt8} {s:Str} {i:Nat} {p:Nat × List Str} (h:CutD d s i p) (hi:i<s.length) (hc:s.getD i 0≠d):CutD d s (i+1) p:=by
 obtain⟨h1,h2,h3, -⟩:=h
 obtain⟨h3,h4⟩:=h3 (by omega)
 refine⟨by omega,by omega,fun _=>⟨h3,?_⟩,fun hl=>by omega⟩
 rw[show i+1 - p.1=(i - p.1)+1 by omega,List.take_add_one,List.getElem?_drop,show p.1+(i - p.1)=i by omega,List.getElem?_eq_getElem hi]
 rw[List.getD_eq_getElem?_getD,List.getElem?_eq_getElem hi]at hc
 simp only[Option.toList_some,List.mem_append,List.mem_singleton,not_or]
 exact⟨h4,fun e=>hc e.symm⟩
theorem pq_ {c d:UInt8}:((c.toNat:Int)=d.toNat)↔c=d:=⟨fun h=>by apply UInt8.toNat_inj.1;omega,fun h=>by rw[h]⟩
attribute [local go_sem] af_ ah_ in
theorem xz_ (d:UInt8) (s:Str) (hs:s.length≤1000000):ACall En 9 [.s s,.i .u8 d.toNat] [] [.sl false (ai_ (bx_ d s))] []:=by
 refine aa_ [] Tryz.func9 Tryz.ntmps9 fun C=>?_
 refine .seq (.rg [] ?_)
 refine .seq (.rg [] ?_)
 refine .seq (.rg [] ?_)
 refine .seq (.seq (.rg [] ?_))
 refine .block (.loopK (fun q:Nat × Nat × List Str=>⟨[.s s,.i .u8 d.toNat,.no,.no,.no,.ow 18 1 0 q.2.2.length,.i .i64 q.2.1,.i .i64 q.1,.no,.no,.no,.no,.no,.no,.no,.no,.no,.no,.no,.no,.no,.no,.no,.no,.no,.no,.no,.no,.no,.no,.no,.no,.no,.no,.no,.no],ae_ [(18,⟨9,1,ai_ q.2.2⟩)],us [18]⟩) (fun q:Nat × Nat × List Str=>q.1≤s.length+1∧CutD d s q.1 q.2) (fun q:Nat × Nat × List Str=>s.length+1 - q.1) ((0,0,[])) ?_ ?_ (fun q hI=>?_))
 ·exact⟨by simp,ann_ d s⟩
 ·refine Can.trans (Can.ownSlot 5 18 9 1 (by simp only[go_sem,seval]<;>rfl) (by simp only[go_sem,seval]) (by simp only[go_sem,seval]<;>rfl)) ?_
  refine Can.wk ?_ ?_
  ·trivial
  (try simp[ai_])
 refine .seq (.seq (.rg [] ?_))
 refine .cB (fun h12=>?_) fun h12=>?_
 ·refine .skip (.seqJ (fun p:Nat × List Str=>⟨[.s s,.i .u8 d.toNat,.no,.no,.no,.ow 18 1 0 p.2.length,.i .i64 p.1,.i .i64 q.1,.no,.no,.no,.no,.no,.no,.no,.no,.no,.no,.no,.no,.no,.no,.no,.no,.no,.no,.no,.no,.no,.no,.no,.no,.no,.no,.no,.no],ae_ [(18,⟨9,1,ai_ p.2⟩)],us [18]⟩) (fun p:Nat × List Str=>CutD d s (q.1+1) p) ?_ (fun p hJ=>?_))
  ·refine .block (.seq (.rgo [] ?_ ?_))
   ·simp only[decide_eq_true_eq]at h12;exact⟨fun h=>⟨h,by omega,by simp only[Bool.not_eq_true',beq_eq_false_iff_ne]at h;omega⟩,fun h=>by rw[h];rfl⟩
   refine .cB (fun h25=>?_) fun h25=>?_
   ·refine .seq (.rgo [] ?_ ?_)
    ·simp only[decide_eq_true_eq]at h12;have h1:=hI.2.1;have h2:=hI.2.2.1;refine⟨⟨by omega,by omega,by omega,by omega,by simp⟩,by simp,by simp,by omega⟩
    refine .rg [] ?_
    refine Exists.intro ((q.1+1,q.2.2++[(s.drop q.2.1).take (q.1 - q.2.1)])) ⟨?_,?_⟩
    ·simp only[decide_eq_true_eq]at h12;first|(refine arr_ hI.2 (by omega) ?_;simp only[Bool.or_eq_true,beq_iff_eq]at h25;rcases h25 with h|h;exact .inl (by omega);exact .inr (pq_.1 h))|(simp only[Bool.or_eq_false_iff,beq_eq_false_iff_ne]at h25;exact aqt_ hI.2 (by omega) (fun e=>h25.2 (pq_.2 e)))
    refine Can.trans (Can.sX 42 18) ?_
    refine Can.wk ?_ ?_
    ·(refine⟨by simp,?_⟩;simp only[decide_eq_true_eq]at h12;exact jz_ (q.1+1) (by omega))
    (rw[List.drop_take,fr_];rfl)
   refine .skip ?_
   refine Exists.intro ((q.2.1,q.2.2)) ⟨?_,?_⟩
   ·simp only[decide_eq_true_eq]at h12;first|(refine arr_ hI.2 (by omega) ?_;simp only[Bool.or_eq_true,beq_iff_eq]at h25;rcases h25 with h|h;exact .inl (by omega);exact .inr (pq_.1 h))|(simp only[Bool.or_eq_false_iff,beq_eq_false_iff_ne]at h25;exact aqt_ hI.2 (by omega) (fun e=>h25.2 (pq_.2 e)))
   refine Can.wk ?_ ?_
   ·trivial
   trivial
  refine .rg [] ?_
  refine Exists.intro ((q.1+1,p.1,p.2)) ⟨?_,?_,?_⟩
  ·simp only[decide_eq_true_eq]at h12;exact⟨by dsimp only;omega,hJ⟩
  ·simp at h12;dsimp only;omega
  refine Can.wk ?_ ?_
  ·rw[ac_ (by simp at h12;omega) (by simp at h12;omega)];(try simp)
  trivial
 refine .exit (.seq (.rg [] ?_))
 refine .fX 18 ?_
 refine .ret ⟨.inr rfl,Out.pQ Tryz.results9 ?_⟩;simp only[decide_eq_false_iff_not]at h12;have e:=hI.2.2.2.2 (by omega);rw[←e];simp[peel,leV,ad_,af_,List.take_of_length_le]
theorem k6_ {l:List Str} {k:Nat} (h:k<l.length):(l.take (k+1)).filter (fun w=>!(w==[]))=(l.take k).filter (fun w=>!(w==[]))++(if l.getD k []=[]then []else [l.getD k []]):=by
 rw[List.take_add_one,List.getElem?_eq_getElem h,List.filter_append,List.getD_eq_getElem?_getD,List.getElem?_eq_getElem h]
 by_cases e:l[k]=[]<;>simp[e]
attribute [local go_sem] af_ ah_ in
theorem ah8_ (s:Str) (hs:s.length≤100000):ACall En 10 [.s s] [] [.sl false (ai_ (d2_ s))] []:=by
 have hl:=Nat.le_trans (gu_ (bx_ 32 s)) (Nat.le_of_eq (j7_ 32 s))
 have hF:∀k,((bx_ 32 s).take k |>.filter (fun w=>!(w==[]))).length≤k:=fun k=>Nat.le_trans (List.length_filter_le _ _) (by rw[List.length_take];omega)
 have hw:d2_ s=(bx_ 32 s).filter fun w=>!(w==[]):=rfl
 have C0:=xz_ 32 s (by omega)
 generalize bx_ 32 s=l at *
 refine aa_ [] Tryz.func10 Tryz.ntmps10 fun C=>?_
 refine .seq (.rg [] ?_)
 refine .seq (.rg [ab_ C0] ?_)
 refine .seq (.rg [] ?_)
 refine .seq (.seq (.rg [] ?_))
 refine .block (.loopK (fun k:Nat=>⟨[.no,.no,.no,.sl false (ai_ l),.ow 18 1 0 ((l.take k).filter fun w=>!(w==[])).length,.i .i64 k,.no,.no,.no,.no,.no,.no,.no,.no,.no,.no,.no,.no,.no,.no,.no,.no,.no,.no,.no,.no,.no,.no],ae_ [(18,⟨9,1,ai_ ((l.take k).filter fun w=>!(w==[]))⟩)],us [18]⟩) (fun k:Nat=>k≤l.length) (fun k:Nat=>l.length - k) (0) ?_ ?_ (fun k hI=>?_))
 ·exact Nat.zero_le _
 ·refine Can.trans (Can.ownSlot 4 18 9 1 (by simp only[go_sem,seval]<;>rfl) (by simp only[go_sem,seval]) (by simp only[go_sem,seval]<;>rfl)) ?_
  refine Can.wk ?_ ?_
  ·(try simp)
  (try simp[ai_])
 refine .seq (.seq (.rg [] ?_))
 refine .cB (fun h12=>?_) fun h12=>?_
 ·refine .skip (.seqJ (fun u:Unit=>⟨[.no,.no,.no,.sl false (ai_ l),.ow 18 1 0 ((l.take (k+1)).filter fun w=>!(w==[])).length,.i .i64 k,.no,.no,.no,.no,.no,.no,.no,.no,.no,.no,.no,.no,.no,.no,.no,.no,.no,.no,.no,.no,.no,.no],ae_ [(18,⟨9,1,ai_ ((l.take (k+1)).filter fun w=>!(w==[]))⟩)],us [18]⟩) (fun u:Unit=>True) ?_ (fun u hJ=>?_))
  ·refine .block (.seq (.rgo [] ?_ ?_ (h:=by simp only[go_sem,seval,an_ (show k<l.length by simpa using h12)];rfl)))
   ·simp at h12;omega
   refine .cB (fun h19=>?_) fun h19=>?_
   ·refine .rgo [] ?_ ?_ (h:=by simp only[go_sem,seval,an_ (show k<l.length by simpa using h12)];rfl)
    ·simp at h12;have:=hF k;exact⟨by omega,fun r hr=>by simp at hr;subst hr;rfl,by simp,by omega⟩
    refine Exists.intro (()) ⟨?_,?_⟩
    ·trivial
    refine Can.trans (Can.sX 36 18) ?_
    refine Can.wk ?_ ?_
    ·(rw[k6_ (by simpa using h12),if_neg (by simpa using h19)];simp;done)
    (rw[k6_ (by simpa using h12),if_neg (by simpa using h19),fr_];rfl)
   refine .skip ?_
   refine Exists.intro (()) ⟨?_,?_⟩
   ·trivial
   refine Can.wk ?_ ?_
   ·(rw[k6_ (by simpa using h12),if_pos (by simpa using h19)];simp;done)
   (rw[k6_ (by simpa using h12),if_pos (by simpa using h19),List.append_nil];done)
  refine .rg [] ?_
  refine⟨k+1,?_,?_,?_⟩
  ·simp at h12;omega
  ·simp at h12;omega
  refine Can.wk ?_ ?_
  ·rw[ac_ (by simp at h12;omega) (by simp at h12;omega)];(try simp)
  trivial
 refine .exit (.seq (.rg [] ?_))
 refine .fX 18 ?_
 refine .ret ⟨.inr rfl,Out.pQ Tryz.results10 ?_⟩;simp only[decide_eq_false_iff_not]at h12;rw[List.take_of_length_le (by rw[af_];exact Nat.le_refl _),List.take_of_length_le (by omega),hw];exact ad_ _
end
section
open Go.RowKit
attribute [local go_sem] aw_ a5_ hx_ k2_ a2_ al_ in
theorem hq_ (l:List Int) (hs:smL l) (hl:l.length≤100):ACall En 86 [.sl false (inR l)] [] [.s (jt_ l)] []:=by
 obtain⟨iB,i1,i2,i3⟩:=bldI
 have hP:=fun k=>akf_ hs k
 refine aa_ [] Tryz.func86 Tryz.ntmps86 fun C=>?_
 refine .seq (.rg [] ?_)
 refine .seq (.rgSo [3] [yj_ En 39 13] ?_ ?_)
 ·exact⟨_,i1,i3⟩
 refine .seq (.seq (.rg [] ?_))
 refine .block (.loopK (fun k:Nat=>⟨[.no,.no,.no,.pt 13 2 0 0,.no,.no,.sl false (inR l),.i .i64 l.length,.i .i64 k,.no,.no,.no,.no,.no,.no,.no,.no,.no],ae_ [(13,⟨39,2,[[bA 13 k,bB 20 (pk_ l k).length]]⟩),(20,⟨5,1,byR (pk_ l k)⟩)],us [13,20]⟩) (fun k:Nat=>k≤l.length) (fun k:Nat=>l.length - k) (0) ?_ ?_ (fun k hI=>?_))
 ·exact Nat.zero_le _
 ·refine Can.trans (Can.newName 20 5 1 (by simp only[go_sem,seval]<;>rfl) (by simp only[go_sem,seval]<;>rfl)) ?_
  refine Can.wk ?_ ?_
  ·trivial
  exact⟨rfl,rfl⟩
 refine .seq (.rg [] ?_)
 refine .seq (.cB (fun h9=>?_) fun h9=>?_)
 ·refine .skip (.seq (.block (.seq (.rgo [] ?_ ?_ (h:=by simp only[go_sem,seval,c1_ (show k<l.length by simpa using h9)];rfl)))))
  ·((simp only[decide_eq_true_eq]at h9;and_intros<;>omega))
  refine .rgo [a0_ (k<l.length) (fun h=>ri_ (l.getD k 0) (by have:=k0_ hs h;unfold smI at this;omega) (by have:=k0_ hs h;unfold smI at this;omega)),jb_ [13,20] [13,40] (dx_ k (pk_ l k).length (pk_ l k) (Lib.itoa (l.getD k 0)++[10]) rfl (by have:=hP k;have:=e8_ (k0_ hs (show k<l.length by simpa using h9));simp only[List.length_append,List.length_cons,List.length_nil];omega))] ?_ ?_
  ·have hk:k<l.length:=(by simpa using h9);have:=e8_ (k0_ hs hk);exact⟨⟨hk,by omega⟩,by decide,by decide⟩
  refine .rg [] ?_
  refine⟨k+1,?_,?_,?_⟩
  ·simp only[decide_eq_true_eq]at h9;omega
  ·simp at h9;omega
  refine Can.trans (Can.sX 40 20) ?_
  refine Can.wk ?_ ?_
  ·simp only[decide_eq_true_eq]at h9;rw[ac_ (by omega) (by omega)];(try simp)
  simp only[decide_eq_true_eq]at h9;rw[ahl_ (by omega)];simp[bA,byR]
 refine .exit (.seq (.rg [jb_ [13,20] [13] (lx_ k (pk_ l k).length (pk_ l k) rfl (by have:=hP k;omega))] ?_))
 refine .ret ⟨.inr rfl,Out.pQ Tryz.results86 ?_⟩;simp only[decide_eq_false_iff_not]at h9;rw[ahk_ (by omega)]
theorem z3_ (a b:Int) (ha:smI a) (hb:smI b):ACall En 97 [.ag [.i .i64 a,.i .i64 b]] [] [.s (xg_ a b)] []:=by
 have h1:=e8_ ha
 have h2:=e8_ hb
 unfold smI at ha hb
 refine aa_ [] Tryz.func97 Tryz.ntmps97 fun C=>?_
 refine .seq (.rg [] ?_)
 refine .seq (.rgDo [ab_ (ri_ a (by omega) (by omega)),ab_ (ri_ b (by omega) (by omega))] ?_ ?_)
 ·((simp;omega))
 refine .ret ⟨.inr rfl,Out.pP Tryz.results97 ?_⟩;simp[xg_]
attribute [local go_sem] al_ in
theorem a0x_ (l:List Int) (ok:Bool) (hs:smL l) (hl:l.length≤100):ACall En 88 [.sl false (inR l),.b ok] [] [.s (ou_ (l,ok))] []:=by
 have h2:=gs_ hs
 refine aa_ [] Tryz.func88 Tryz.ntmps88 fun C=>?_
 refine .seq (.rg [] ?_)
 refine .seq (.seq (.rg [] ?_))
 refine .cB (fun h5=>?_) fun h5=>?_
 ·refine .seq (.rgo [ab_ (hq_ l hs hl)] ?_ ?_)
  ·(omega)
  refine .ret ⟨.inr rfl,Out.pP Tryz.results88 ?_⟩;simp[ou_,h5]
 refine .skip (.seq (.rgo [ab_ (hq_ l hs hl)] ?_ ?_))
 ·(omega)
 refine .ret ⟨.inr rfl,Out.pP Tryz.results88 ?_⟩;simp[ou_,h5]
attribute [local go_sem] a2_ al_ in
theorem rj_ (l:List Int) (hs:smL l) (hl:l.length≤100):ACall En 65 [.sl false (inR l)] [] [.s (jt_ l)] []:=by
 have hP:=fun k=>akf_ hs k
 refine aa_ [] Tryz.func65 Tryz.ntmps65 fun C=>?_
 refine .seq (.rg [] ?_)
 refine .seq (.rg [] ?_)
 refine .seq (.seq (.rg [] ?_))
 refine .block (.loopK (fun k:Nat=>⟨[.sl false (inR l),.no,.no,.s (pk_ l k),.i .i64 k,.no,.no,.no,.no,.no,.no,.no,.no,.no,.no,.no,.no,.no,.no,.no],ae_ [],us []⟩) (fun k:Nat=>k≤l.length) (fun k:Nat=>l.length - k) (0) ?_ ?_ (fun k hI=>?_))
 ·exact Nat.zero_le _
 ·refine Can.wh ?_;rfl
 refine .seq (.seq (.rg [] ?_))
 refine .cB (fun h8=>?_) fun h8=>?_
 ·refine .skip (.seq (.block (.rgo [a0_ (k<l.length) (fun h=>hv_ (l.getD k 0) (by have:=k0_ hs h;unfold smI at this;omega) (by have:=k0_ hs h;unfold smI at this;omega))] ?_ ?_ (h:=by simp only[go_sem,seval,c1_ (show k<l.length by simpa using h8)];rfl))))
  ·have hk:k<l.length:=(by simpa using h8);have:=e8_ (k0_ hs hk);have:=hP k;simp only[List.length_append];omega
  refine .rg [] ?_
  refine⟨k+1,?_,?_,?_⟩
  ·simp only[decide_eq_true_eq]at h8;omega
  ·simp at h8;omega
  refine Can.wh ?_;simp only[decide_eq_true_eq]at h8;rw[ac_ (by omega) (by omega),ahl_ (by omega)];(try simp)
 refine .exit (.seq (.rg [] ?_))
 refine .ret ⟨.inr rfl,Out.pP Tryz.results65 ?_⟩;simp only[decide_eq_false_iff_not]at h8;rw[ahk_ (by omega)]
theorem afv_ (a b:Int) (ha:smI a) (hb:smI b):ACall En 116 [.ag [.i .i64 a,.i .i64 b]] [] [.s (xg_ a b++[10])] []:=by
 have h1:=e8_ ha
 have h2:=e8_ hb
 unfold smI at ha hb
 refine aa_ [] Tryz.func116 Tryz.ntmps116 fun C=>?_
 refine .seq (.rg [] ?_)
 refine .seq (.rgDo [ab_ (hv_ a (by omega) (by omega)),ab_ (hv_ b (by omega) (by omega))] ?_ ?_)
 ·((simp;omega))
 refine .ret ⟨.inr rfl,Out.pP Tryz.results116 ?_⟩;simp[xg_]
attribute [local go_sem] al_ in
theorem aeo_ (l:List Int) (ok:Bool) (hs:smL l) (hl:l.length≤100):ACall En 67 [.sl false (inR l),.b ok] [] [.s (ou_ (l,ok))] []:=by
 have h2:=gs_ hs
 refine aa_ [] Tryz.func67 Tryz.ntmps67 fun C=>?_
 refine .seq (.rg [] ?_)
 refine .seq (.seq (.rg [] ?_))
 refine .cB (fun h5=>?_) fun h5=>?_
 ·refine .seq (.rgo [ab_ (rj_ l hs hl)] ?_ ?_)
  ·(omega)
  refine .ret ⟨.inr rfl,Out.pP Tryz.results67 ?_⟩;simp[ou_,h5]
 refine .skip (.seq (.rgo [ab_ (rj_ l hs hl)] ?_ ?_))
 ·(omega)
 refine .ret ⟨.inr rfl,Out.pP Tryz.results67 ?_⟩;simp[ou_,h5]
end
section
attribute [local go_sem] a2_ al_ in
theorem avq_ (a b:List Int) (ha:a.length≤1000000000) (hb:b.length≤1000000000):ACall En 266 [.sl false (inR a),.sl false (inR b)] [] [.b (a==b)] []:=by
 refine aa_ [] Tryz.func266 Tryz.ntmps266 fun C=>?_
 refine .seq (.rg [] ?_)
 refine .seq (.seq (.rg [] ?_))
 refine .cB (fun h10=>?_) fun h10=>?_
 ·refine .seq (.rg [] ?_)
  refine .ret ⟨.inr rfl,Out.pP Tryz.results266 ?_⟩;have:a≠b:=(fun e=>by simp[e]at h10);simp[this]
 refine .skip (.seq (.seq (.rg [] ?_)))
 refine .block (.loopK (fun k:Nat=>⟨[.sl false (inR a),.sl false (inR b),.no,.no,.no,.no,.no,.no,.no,.no,.no,.no,.i .i64 a.length,.i .i64 k,.no,.no,.no,.no,.no,.no,.no,.no,.no,.no,.no,.no],ae_ [],us []⟩) (fun k:Nat=>k≤a.length∧a.take k=b.take k) (fun k:Nat=>a.length - k) (0) ?_ ?_ (fun k hI=>?_))
 ·exact⟨Nat.zero_le _,rfl⟩
 ·refine Can.wh ?_;trivial
 refine .seq (.rg [] ?_)
 refine .seq (.cB (fun h14=>?_) fun h14=>?_)
 ·refine .skip (.seq (.block (.seq (.rg [] ?_))))
  refine .seq (.rgDo [] ?_ ?_ (h:=by simp only[go_sem,seval,c1_ (show k<a.length by simpa using h14),c1_ (show k<b.length by simp at h14 h10;omega)];rfl))
  ·simp at h14 h10;simp;omega
  refine .cB (fun h24=>?_) fun h24=>?_
  ·refine .seq (.rg [] ?_)
   refine .ret ⟨.inr rfl,Out.pP Tryz.results266 ?_⟩;have h2:a.getD k 0≠b.getD k 0:=bne_iff_ne.1 h24;have:a≠b:=(fun e=>h2 (by rw[e]));simp[this]
  refine .skip (.rg [] ?_)
  refine⟨k+1,?_,?_,?_⟩
  ·simp only[decide_eq_true_eq]at h14;simp at h10;exact⟨by omega,aft_ (d:=0) (by omega) (by omega) hI.2 (by simpa using h24)⟩
  ·simp at h14;omega
  refine Can.wh ?_;rw[ac_ (by simp at h14;omega) (by simp at h14;omega)];simp
 refine .exit (.seq (.rg [] ?_))
 refine .ret ⟨.inr rfl,Out.pP Tryz.results266 ?_⟩;simp only[decide_eq_false_iff_not]at h14;simp at h10;have q:=hI.2;rw[List.take_of_length_le (by omega),List.take_of_length_le (by omega)]at q;simp[q]
theorem af2_ {p q:Pg}:(p=q)↔(((p.line=q.line∧p.good=q.good)∧p.text=q.text)∧p.frm=q.frm):=by
 constructor
 ·rintro rfl;exact⟨⟨⟨rfl,rfl⟩,rfl⟩,rfl⟩
 intro h;obtain⟨a,b,c,d⟩:=p;obtain⟨a2,b2,c2,d2⟩:=q;simp_all
attribute [local go_sem] cm_ al_ in
theorem a0z_ (p q:Pg) (hp:pgB p) (hq:pgB q):ACall En 212 [.ag (pgC p),.ag (pgC q)] [] [.b (decide (p=q))] []:=by
 have h1:=hp.2.2
 have h2:=hq.2.2
 have T:=@af2_ p q
 refine aa_ [] Tryz.func212 Tryz.ntmps212 fun C=>?_
 refine .seq (.rg [] ?_)
 refine .seq (.rg [ab_ (avq_ p.frm q.frm (by omega) (by omega))] ?_)
 refine .ret ⟨.inr rfl,Out.pP Tryz.results212 ?_⟩;have e:(p.line==q.line&&p.good==q.good&&p.text==q.text&&p.frm==q.frm)=decide (p=q):=(by rw[Bool.eq_iff_iff];simp only[Bool.and_eq_true,beq_iff_eq,decide_eq_true_eq];exact T.symm);rw[e]
attribute [local go_sem] cm_ al_ in
theorem aoa_ (p:Pg) (hp:pgB p):ACall En 211 [.ag (pgC p)] [] [.b (!okP p)] []:=by
 have P:=rh_ p.line (by have:=hp.1;omega)
 have B:=abf_ hp.1
 refine aa_ [] Tryz.func211 Tryz.ntmps211 fun C=>?_
 refine .seq (.rg [] ?_)
 refine .seq (.rgD [ab_ (vf_ p.line (by have:=hp.1;omega)),ab_ P,ab_ (a0z_ p (dl_ p.line) hp B)] ?_)
 refine .ret ⟨.inr rfl,Out.pP Tryz.results211 ?_⟩;rw[okP,Bool.not_and]
attribute [local go_sem] bl_ a3_ cm_ in
theorem ayk_ (l:List Pg) (hs:∀p∈l,pgB p) (hl:l.length≤2000000):ACall En 265 [.sl false (pgR l),.fn (.func 211) [] []] [] [.i .i64 (n6_ (fun p=>!okP p) l)] []:=by
 refine aa_ [] Tryz.func265 Tryz.ntmps265 fun C=>?_
 refine .seq (.rg [] ?_)
 refine .seq (.seq (.rg [] ?_))
 refine .block (.loopK (fun k:Nat=>⟨[.sl false (pgR l),.fn (.func 211) [] [],.no,.no,.no,.no,.no,.i .i64 l.length,.i .i64 k,.no,.no,.no,.no,.no,.no,.no,.no,.no,.no],ae_ [],us []⟩) (fun k:Nat=>k≤l.length∧(l.take k).any (fun p=>!okP p)=false) (fun k:Nat=>l.length - k) (0) ?_ ?_ (fun k hI=>?_))
 ·simp
 ·refine Can.wh ?_;trivial
 refine .seq (.rg [] ?_)
 refine .seq (.cB (fun h9=>?_) fun h9=>?_)
 ·refine .skip (.seq (.block (.seq (.rg [] ?_))))
  refine .seq (.rgo [a0_ (k<l.length) (fun h=>aoa_ (l.getD k Pg0) (hs _ (ag_ h)))] ?_ ?_ (h:=by simp only[go_sem,seval,c4_ (show k<l.length by simpa using h9)];rfl))
  ·simp only[decide_eq_true_eq]at h9;simp only[up_,al_,bu_,V.pure,Bool.and_true,true_and];and_intros<;>first|omega|(simp;done)|trivial
  refine .cB (fun h16=>?_) fun h16=>?_
  ·refine .seq (.rg [] ?_)
   refine .ret ⟨.inr rfl,Out.pP Tryz.results265 ?_⟩;simp at h9;rw[o1_ (d:=Pg0) h9 hI.2 h16]
  refine .skip (.rg [] ?_)
  refine⟨k+1,?_,?_,?_⟩
  ·simp at h9;refine⟨by omega,?_⟩;rw[i6_ (d:=Pg0) h9,hI.2,h16];rfl
  ·simp at h9;omega
  refine Can.wh ?_;rw[ac_ (by omega) (by omega)];simp
 refine .exit (.seq (.rg [] ?_))
 refine .ret ⟨.inr rfl,Out.pP Tryz.results265 ?_⟩;simp at h9;have h0:=hI.2;rw[List.take_of_length_le h9]at h0;rw[iu_ h0]
attribute [local go_sem] a3_ in
theorem avp_ (l:List Pg) (hs:∀p∈l,pgB p) (hl:l.length≤2000000):ACall En 210 [.sl false (pgR l),.fn (.func 211) [] []] [] [.b (l.any fun p=>!okP p)] []:=by
 refine aa_ [] Tryz.func210 Tryz.ntmps210 fun C=>?_
 refine .seq (.rg [] ?_)
 refine .seq (.rg [ab_ (ayk_ l hs hl)] ?_)
 refine .ret ⟨.inr rfl,Out.pP Tryz.results210 ?_⟩;rw[m6_]
theorem awz_ (l:List Pg):bi_ l=((decide ((1:Int)≤l.length)&&decide ((l.length:Int)≤16))&&!l.any fun p=>!okP p):=by
 rw[List.any_eq_not_all_not];simp only[bi_,Bool.not_not,dt_];rfl
attribute [local go_sem] bl_ a3_ in
theorem nj_ (l:List Pg) (hs:∀p∈l,pgB p) (hl:l.length≤2000000):ACall En 143 [.sl false (pgR l)] [] [.b (bi_ l)] []:=by
 refine aa_ [] Tryz.func143 Tryz.ntmps143 fun C=>?_
 refine .seq (.rg [] ?_)
 refine .seq (.rg [ab_ (ta_ l.length 1 16),ab_ (avp_ l hs hl)] ?_)
 refine .ret ⟨.inr rfl,Out.pP Tryz.results143 ?_⟩;rw[awz_]
def zPg:List V:=[.s [],.b false,.s [],.sl true []]
theorem filP (l:List Pg) (k j:Nat):((fi_ (pgR l) zPg k).getD j []).drop 4=[]:=by
 rw[List.getD_eq_getElem?_getD]
 cases h:(fi_ (pgR l) zPg k)[j]? with
 |none=>rfl
 |some r=>
  have hm:=List.mem_of_getElem? h
  have:r.length=4:=by
   rcases qd_ hm with hm|rfl
   ·obtain⟨s,_,rfl⟩:=List.mem_map.1 hm;rfl
   rfl
  simp only[Option.getD_some];exact List.drop_of_length_le (by omega)
theorem aws_ {ls:List Str} {k:Nat} (h:k<ls.length):(pgR (ls.map dl_)).getD k []=pgC (dl_ (ls.getD k [])):=by
 rw[c4_ (by simpa using h)]
 simp[List.getD_eq_getElem?_getD,List.getElem?_eq_getElem h]
attribute [local go_sem] af_ ah_ a3_ filP gm_ cm_ in
theorem ang_ (s:Str) (hs:s.length≤281474976710656):ACall En 12 [.s s] [] [.sl false (pgR (f4_ s))] []:=by
 have hL:=e5_ s
 have hM:=hb_ s
 have hb:f4_ s=if (bo_ s).length≤16 then(bo_ s).map dl_ else []:=rfl
 have T:=li_ s hs
 generalize bo_ s=ls at *
 have hp:∀k,bg_ (fi_ (pgR (ls.map dl_)) zPg k)=true:=fun k=>iq_ (a3_ _) rfl
 have hll:(pgR (ls.map dl_)).length=ls.length:=by simp[pgR]
 refine aa_ [] Tryz.func12 Tryz.ntmps12 fun C=>?_
 refine .seq (.rg [] ?_ (h:=by simp only[go_sem,seval,hp,hll];rfl))
 refine .seq (.rg [ab_ T] ?_ (h:=by simp only[go_sem,seval,hp,hll];rfl))
 refine .seq (.seq (.rg [] ?_ (h:=by simp only[go_sem,seval,hp,hll];rfl)))
 refine .cB (fun h11=>?_) (fun h11=>?_) (hc:=by simp only[go_sem,seval,hp,hll];rfl) (hp:=by simp only[go_sem,seval,hp,hll])
 ·refine .seq (.rg [] ?_ (h:=by simp only[go_sem,seval,hp,hll];rfl))
  refine .ret ⟨.inr rfl,?_⟩
  exact Out.plL (by simp only[Tryz.results12];rfl) (by simp only[ba_,go_sem,seval,hp,hll]<;>(simp only[decide_eq_true_eq]at h11;rw[hb,if_neg (by omega)];simp[pgR,les,ler,leV])) (h1:=by simp only[a1_,bn_,go_sem,seval,hp,hll]<;>(split<;>rfl)) (h3:=by simp only[go_sem,seval,hp,hll])
 refine .skip (.seq (.rgo [] ?_ ?_ (h:=by simp only[go_sem,seval,hp,hll];rfl)))
 ·((simp only[decide_eq_false_iff_not]at h11;and_intros<;>omega))
 refine .seq (.seq (.rg [] ?_ (h:=by simp only[go_sem,seval,hp,hll];rfl)))
 refine .block (.loopK (fun k:Nat=>⟨[.no,.no,.no,.no,.ow 24 4 0 ls.length,.no,.no,.no,.no,.no,.no,.no,.no,.no,.no,.sl false (ai_ ls),.i .i64 ls.length,.i .i64 k,.no,.no,.no,.no,.no,.no,.no,.no,.no,.no,.no],ae_ [(24,⟨67,4,fi_ (pgR (ls.map dl_)) zPg k⟩)],us [24]⟩) (fun k:Nat=>k≤ls.length) (fun k:Nat=>ls.length - k) (0) ?_ ?_ (fun k hI=>?_))
 ·simp
 ·exact Can.wl (h:=by simp only[go_sem,seval,hp,hll,av_,leV,as_,au_,V.inn,us,true_or,or_true]<;>((try simp))) (hi:=by simp only[go_sem,seval,hp,hll,av_,leV,as_,au_,V.inn,us,true_or,or_true]) (hL:=by simp only[go_sem,seval,hp,hll,av_,leV,as_,au_,V.inn,us,true_or,or_true]<;>(simp[it_,zPg,hll]))
 refine .seq (.rg [] ?_ (h:=by simp only[go_sem,seval,hp,hll];rfl))
 refine .seq (.cB (fun h18=>?_) (fun h18=>?_) (hc:=by simp only[go_sem,seval,hp,hll];rfl) (hp:=by simp only[go_sem,seval,hp,hll]))
 ·refine .skip (.seq (.block (.seq (.rgo [] ?_ ?_ (h:=by simp only[go_sem,seval,hp,hll,an_ (show k<ls.length by simpa using h18)];rfl)))))
  ·((simp only[decide_eq_true_eq,decide_eq_false_iff_not]at h11 h18;and_intros<;>first|omega|exact al_ _))
  refine .rgo [a0_ (k<ls.length) (fun h=>rh_ (ls.getD k []) (by have:=hM _ (ag_ (d:=[]) h);omega))] ?_ ?_ (h:=by simp only[go_sem,seval,hp,hll];rfl)
  ·((simp only[decide_eq_true_eq,decide_eq_false_iff_not]at h11 h18;and_intros<;>first|omega|exact al_ _))
  refine .rg [] ?_ (h:=by simp only[go_sem,seval,hp,hll];rfl)
  refine⟨k+1,?_,?_,?_⟩
  ·simp at h18;omega
  ·simp at h18;omega
  exact Can.wl (h:=by simp only[go_sem,seval,hp,hll,av_,leV,as_,au_,V.inn,us,true_or,or_true]<;>(rw[ac_ (by simp at h18;omega) (by simp at h18;omega)];(try simp))) (hi:=by simp only[go_sem,seval,hp,hll,av_,leV,as_,au_,V.inn,us,true_or,or_true]) (hL:=by simp only[go_sem,seval,hp,hll,av_,leV,as_,au_,V.inn,us,true_or,or_true]<;>(rw[←jf_ (by rw[hll];simpa using h18),aws_ (by simpa using h18),cm_]))
 refine .exit (.seq (.rg [] ?_ (h:=by simp only[go_sem,seval,hp,hll];rfl)))
 refine .frz 24 (by simp only[go_sem,seval,hp,hll];rfl) (by simp only[go_sem,seval,hp,hll]) (by simp only[go_sem,seval,hp,hll];rfl) (by simp only[go_sem,seval,hp,hll];rfl) ?_
 refine .ret ⟨.inr rfl,?_⟩
 exact Out.plL (by simp only[Tryz.results12];rfl) (by simp only[ba_,go_sem,seval,hp,hll]<;>(simp only[decide_eq_false_iff_not]at h11 h18;rw[hb,if_pos (by omega),kj_ (by rw[hll];omega),List.take_of_length_le (by rw[hll];exact Nat.le_refl _)];simp[les,leV,ad_])) (h1:=by simp only[a1_,bn_,go_sem,seval,hp,hll]<;>(split<;>rfl)) (h3:=by simp only[go_sem,seval,hp,hll])
end
end Go.Proofs.YthjccajoadjicaaGreatDoor
