/- The desk, plainly: what each line of a script does and answers. Conditions: none. -/
import Derived.Test.YthjccajoadjicaaGreatDoorKn
import Derived.Test.YthjccajoadjicaaGreatDoorKj
import Derived.Test.YthjccajoadjicaaGreatDoorKl
import Derived.Test.YthjccajoadjicaaGreatDoorKm
import Derived.Test.YthjccajoadjicaaGreatDoorKf
import Derived.Test.YthjccajoadjicaaGreatDoorKk
set_option linter.unusedVariables false
set_option linter.unusedSimpArgs false
namespace Go.Proofs.YthjccajoadjicaaGreatDoor
section
set_option maxRecDepth 100000
def na_:Str:=[105,110,116]
def aim_:Str:=[98,111,111,108]
mutual
def lm_ (ns ts:List Str):E→Str
 |.mk k _ s kids=>
  if k=1 then na_
  else if k=2 then(if 0≤ff_ ns s then ts.getD (ff_ ns s).toNat []else [])
  else if k=4 then(if typ0 ns ts kids=[]then []else s)
  else if typ0 ns ts kids=na_∧typ1 ns ts kids=na_ then(if s=[60]then aim_ else na_)
  else []
def typ0 (ns ts:List Str):List E→Str
 |[]=>[]
 |e::_=>lm_ ns ts e
def typ1 (ns ts:List Str):List E→Str
 |[]=>[]
 |_::r=>typ0 ns ts r
end
def z3_ (ns ts:List Str) (e:E):Str:=if g0_ e then []else lm_ ns ts e
def p2_ (ns ts:List Str) (s:Sl):Bool:=
 if s.kind=1 then z3_ ns ts s.expr==s.type
 else if s.kind=2 then !(z3_ ns ts s.expr==[])
 else if s.kind=3 then z3_ ns ts s.expr==aim_&&!(z3_ ns ts s.thn==[])
 else true
def tyN (l:List Sl) (k:Nat):List Str:=((l.take k).filter fun s=>s.kind==1).map (·.name)
def tyT (l:List Sl) (k:Nat):List Str:=((l.take k).filter fun s=>s.kind==1).map (·.type)
def j0_ (l:List Sl) (k:Nat):Bool:=p2_ (tyN l k) (tyT l k) (l.getD k S0)
def gy_ (l:List Sl):Int:=
 if pok l then(match (List.range l.length).find? (fun k=>!j0_ l k)with|some k=>(k:Int)|none=> -1)else -2
/-! answers -/
def js_ (l:List Int):Str:=(l.map fun n=>Lib.itoa n++[10]).flatten
def st_ (r:List Int × Bool):Str:=js_ r.1++(if r.2 then [102,105,110,101,10]else [115,116,117,99,107,10])
def wz_ (a b:Int):Str:=Lib.itoa a++(32::Lib.itoa b)
def cp_ (d:UInt8):Str→List Str
 |[]=>[[]]
 |c::l=>if c=d then []::cp_ d l else match cp_ d l with
  |[]=>[[c]]
  |w::r=>(c::w)::r
theorem au8_ (d:UInt8):∀l:Str,cp_ d l≠[]
 |[]=>by simp[cp_]
 |c::l=>by
  unfold cp_
  split
  ·simp
  ·split<;>simp
def eu_ (s:Str):List Str:=(cp_ 32 s).filter fun w=>!(w==[])
def fg_ (b:List Pg) (w:Str):Str:=
 if w=[116,101,120,116]then bo_ b++[10,101,110,100,10]
 else if w=[98,97,114,101]then e0_ b++[10,101,110,100,10]
 else if w=[109,97,112]then mapT (a9_ b)++[10]
 else if w=[98,97,100]then js_ (ks_ b)++[101,110,100,10]
 else if w=[112,114,105,110,116]then st_ (i7_ (e0_ b))
 else if w=[116,121,112,101]∨w=[114,117,110]then
  (if prR (bo_ b)then(if w=[114,117,110]then st_ (hf_ (prL (bo_ b)))else js_ [gy_ (prL (bo_ b))])else [98,97,100,10])
 else [119,104,97,116,10]
def ib_ (b:List Pg) (w:Str) (L c:Int):Str:=
 if w=[108,111,111,107]then
  (match g2_ (a9_ b) L c with|some x=>wz_ x.2.2.1 x.2.2.2++[10]|none=>[110,111,110,101,10])
 else((dl_ (a9_ b) L c).map fun x=>wz_ x.1 x.2.1++[10]).flatten++[101,110,100,10]
def hw_ (b x:List Pg) (ok:Bool):List Pg × Str:=if ok then(x,[102,105,110,101,10])else(b,[110,111,10])
def isWhat:Str:=[119,104,97,116,10]
def b8_ (b:List Pg) (w:List Str):List Pg × Str:=
 if w.getD 0 []=[97,100,100]then hw_ b (chg b b.length 0 [ax_ (w.drop 1)]) (bc_ b b.length 0 [ax_ (w.drop 1)])
 else if w.length=1 then(b,fg_ b (w.getD 0 []))
 else if bd_ (w.getD 1 [])=false then(b,isWhat)
 else if w.getD 0 []=[105,110]then hw_ b (chg b (av_ (w.getD 1 [])) 0 [ax_ (w.drop 2)]) (bc_ b (av_ (w.getD 1 [])) 0 [ax_ (w.drop 2)])
 else if w.getD 0 []=[112,117,116]then hw_ b (chg b (av_ (w.getD 1 [])) 1 [ax_ (w.drop 2)]) (bc_ b (av_ (w.getD 1 [])) 1 [ax_ (w.drop 2)])
 else if w.getD 0 []=[111,117,116]∧w.length=2 then hw_ b (chg b (av_ (w.getD 1 [])) 1 []) (bc_ b (av_ (w.getD 1 [])) 1 [])
 else if (w.getD 0 []=[108,111,111,107]∨w.getD 0 []=[98,97,99,107])∧w.length=3∧bd_ (w.getD 2 [])=true then(b,ib_ b (w.getD 0 []) (av_ (w.getD 1 [])) (av_ (w.getD 2 [])))
 else(b,isWhat)
def goD:List Str→Nat→List Pg→Str→List Pg × Str × Bool
 |[],_,b,o=>(b,o,true)
 |x::r,i,b,o=>
  if eu_ x=[]then goD r (i+1) b o
  else if 200≤i∨60000<o.length then(b,o++[102,117,108,108,10],false)
  else goD r (i+1) (b8_ b (eu_ x)).1 (o++(b8_ b (eu_ x)).2)
def air_ (s:Str):Str:=if 20000<s.length then [108,111,110,103,10]else(goD (cp_ 10 s) 0 (jk_ []) []).2.1
theorem tk_:∀(x y:List Str) (i:Nat) (b:List Pg) (o:Str),goD (x++y) i b o=if (goD x i b o).2.2 then goD y (i+x.length) (goD x i b o).1 (goD x i b o).2.1 else goD x i b o
 |[],y,i,b,o=>by simp[goD]
 |a::x,y,i,b,o=>by
  simp only[List.cons_append,goD]
  split
  ·rw[tk_ x y (i+1) b o,T7_,show i+1+x.length=i+(x.length+1) by omega]
  ·split
   ·rfl
   ·rw[tk_ x y (i+1),T7_,show i+1+x.length=i+(x.length+1) by omega]
end
section
set_option maxRecDepth 100000
set_option maxHeartbeats 8000000
theorem go_ {N M:List Str} {l:List E} (h:0<l.length):typ0 N M l=lm_ N M (l.getD 0 E0):=by
 cases l with
 |nil=>simp at h
 |cons a l=>simp[typ0]
theorem mi_ {N M:List Str} {l:List E} (h:1<l.length):typ1 N M l=lm_ N M (l.getD 1 E0):=by
 cases l with
 |nil=>simp at h
 |cons a l=>rw[typ1,go_ (by simpa using h)];simp
theorem ai9_ (N M:List Str) (e:E):lm_ N M e=if e.kind=1 then na_ else if e.kind=2 then(if 0≤ff_ N e.s then M.getD (ff_ N e.s).toNat []else [])else if e.kind=4 then(if typ0 N M e.kids=[]then []else e.s)
  else if typ0 N M e.kids=na_∧typ1 N M e.kids=na_ then(if e.s=[60]then aim_ else na_)else []:=by
 cases e;rw[lm_];rfl
theorem aqv_ {e:E} (h:eok e=true):g0_ e=false:=by
 cases h2:g0_ e with
 |false=>rfl
 |true=>rw[(c4_ e).1 h2]at h;exact absurd h (by decide)
theorem n8_ {e:E} (h:eok e=true) (N M:List Str):z3_ N M e=lm_ N M e:=by unfold z3_;rw[aqv_ h];rfl
theorem ap4_ {s:Sl} (h:sok s=true):(g0_ s.expr=true∨eok s.expr=true)∧(g0_ s.thn=true∨eok s.thn=true):=by
 have h0:=(o4_ h).1
 unfold ca_ at h0
 by_cases k0:s.kind=0
 ·simp[k0]at h0;exact⟨.inl h0.1.2,.inl h0.2⟩
 by_cases k1:s.kind=1
 ·simp[k1]at h0;exact⟨.inr h0.1.2,.inl h0.2⟩
 by_cases k2:s.kind=2
 ·simp[k2]at h0;exact⟨.inr h0.1.2,.inl h0.2⟩
 by_cases k3:s.kind=3
 ·simp[k3]at h0;exact⟨.inr h0.1.2,.inr h0.2⟩
 ·simp[k0,k1,k2,k3]at h0
theorem aiw_ {l:List Sl} {k:Nat} (h:k<l.length):tyN l (k+1)=tyN l k++(if (l.getD k S0).kind=1 then [(l.getD k S0).name]else []):=by
 unfold tyN
 rw[List.take_add_one,T6_ h,List.filter_append,List.map_append,T8_,T6_ h]
 by_cases e:l[k].kind=1<;>simp[e]
theorem ah8_ {l:List Sl} {k:Nat} (h:k<l.length):tyT l (k+1)=tyT l k++(if (l.getD k S0).kind=1 then [(l.getD k S0).type]else []):=by
 unfold tyT
 rw[List.take_add_one,T6_ h,List.filter_append,List.map_append,T8_,T6_ h]
 by_cases e:l[k].kind=1<;>simp[e]
theorem aji_ (l:List Sl) (k:Nat):(tyN l k).length=(tyT l k).length∧(tyN l k).length≤k:=by
 refine⟨by simp[tyN,tyT],?_⟩
 unfold tyN
 rw[List.length_map]
 exact Nat.le_trans (List.length_filter_le _ _) (by rw[List.length_take];omega)
attribute [local go_sem] al_ aq_ in
theorem auy_ (d:Nat):∀(e:E) (N M:List Str),form e d=true→N.length=M.length→N.length≤1000000→ACall En 229 [.ag (eC e),.sl false (an_ N),.sl false (an_ M)] [] [.s (lm_ N M e)] []:=by
 induction d with
 |zero=>intro e N M h;have:=(ar_ h).1;omega
 |succ d ih=>
 intro e N M h hl hn
 have e1:((d+1:Nat):Int) - 1=(d:Int):=by omega
 have g3:e.kind=3→e.kids.length=2∧form (e.kids.getD 0 E0) d=true∧form (e.kids.getD 1 E0) d=true∧fm_ e.s=true:=fun hk=>by
  rcases (ar_ h).2 with⟨k1,_⟩|⟨k1,_⟩|⟨k1,h1,h2,h3,h4,h5⟩|⟨k1,_⟩<;>try omega
  rw[e1]at h4 h5;exact⟨h3,h4,h5,h2⟩
 have g4:e.kind=4→e.kids.length=1∧form (e.kids.getD 0 E0) d=true:=fun hk=>by
  rcases (ar_ h).2 with⟨k1,_⟩|⟨k1,_⟩|⟨k1,_⟩|⟨k1,h1,h2,h3,h4⟩<;>try omega
  rw[e1]at h4;exact⟨h3,h4⟩
 have g0:¬e.kind=1→¬e.kind=2→¬e.kind=4→e.kind=3:=fun a b c=>by
  rcases (ar_ h).2 with⟨k1,_⟩|⟨k1,_⟩|⟨k1,_⟩|⟨k1,_⟩<;>omega
 have hb:=p9_ N e.s
 have T:=ai9_ N M e
 have G:=fun a b c=>(g3 (g0 a b c))
 refine aa_ [] Tryz.func229 Tryz.ntmps229 fun C=>?_
 refine .seq (.rg [] ?_)
 refine .seq (.seq (.rg [] ?_))
 refine .block (.seq (.rg [] ?_))
 refine .cB (fun h10=>?_) (fun h10=>?_)
 ·refine .seq (.rg [] ?_)
  refine .ret ⟨.inr rfl,?_⟩
  exact Out.pl (by simp only[Tryz.results229];rfl) (by simp only[ag_,go_sem,seval]<;>(rw[T,if_pos (by simpa using h10)];rfl))
 ·refine .seq (.rg [] ?_)
  refine .cB (fun h12=>?_) (fun h12=>?_)
  ·refine .seq (.seq (.rg [ab_ (apa_ N e.s (by omega))] ?_))
   refine .seq (.rg [] ?_)
   refine .cB (fun h19=>?_) (fun h19=>?_)
   ·refine .seq (.rgo [] ?_ ?_ (h:=by simp only[go_sem,seval,aw_ (show(ff_ N e.s).toNat<M.length by simp at h19;omega)];rfl))
    ·simp at h19;(try simp);omega
    refine .ret ⟨.inr rfl,?_⟩
    exact Out.pl (by simp only[Tryz.results229];rfl) (by simp only[ag_,go_sem,seval]<;>(rw[T,if_neg (by simpa using h10),if_pos (by simpa using h12),if_pos (by simpa using h19)]))
   ·refine .skip (.seq (.rg [] ?_))
    refine .ret ⟨.inr rfl,?_⟩
    exact Out.pl (by simp only[Tryz.results229];rfl) (by simp only[ag_,go_sem,seval]<;>(rw[T,if_neg (by simpa using h10),if_pos (by simpa using h12),if_neg (by simpa using h19)]))
  ·refine .seq (.rg [] ?_)
   refine .cB (fun h24=>?_) (fun h24=>?_)
   ·refine .seq (.seq (.rgo [ab_ (ih (e.kids.getD 0 E0) N M (g4 (by simpa using h24)).2 hl hn)] ?_ ?_ (h:=by simp only[go_sem,seval,b7_ (show 0<e.kids.length by have:=g4 (by simpa using h24);omega)];rfl)))
    ·have:=g4 (by simpa using h24);simp;omega
    refine .cB (fun h33=>?_) (fun h33=>?_)
    ·refine .seq (.rg [] ?_)
     refine .ret ⟨.inr rfl,?_⟩
     exact Out.pl (by simp only[Tryz.results229];rfl) (by simp only[ag_,go_sem,seval]<;>(rw[T,if_neg (by simpa using h10),if_neg (by simpa using h12),if_pos (by simpa using h24),go_ (by have:=g4 (by simpa using h24);omega),if_pos (by simpa using h33)]))
    ·refine .skip (.seq (.rg [] ?_))
     refine .ret ⟨.inr rfl,?_⟩
     exact Out.pl (by simp only[Tryz.results229];rfl) (by simp only[ag_,go_sem,seval]<;>(rw[T,if_neg (by simpa using h10),if_neg (by simpa using h12),if_pos (by simpa using h24),go_ (by have:=g4 (by simpa using h24);omega),if_neg (by simpa using h33)]))
   ·refine .skip (.seq (.seq (.rgo [ab_ (ih (e.kids.getD 0 E0) N M (G (by simpa using h10) (by simpa using h12) (by simpa using h24)).2.1 hl hn),ab_ (ih (e.kids.getD 1 E0) N M (G (by simpa using h10) (by simpa using h12) (by simpa using h24)).2.2.1 hl hn)] ?_ ?_ (h:=by simp only[go_sem,seval,b7_ (show 0<e.kids.length by have:=G (by simpa using h10) (by simpa using h12) (by simpa using h24);omega),b7_ (show 1<e.kids.length by have:=G (by simpa using h10) (by simpa using h12) (by simpa using h24);omega)];rfl))))
    ·have:=G (by simpa using h10) (by simpa using h12) (by simpa using h24);exact⟨⟨by omega,fun q=>⟨q,by omega⟩⟩,fun q=>by rw[q];rfl⟩
    refine .cB (fun h53=>?_) (fun h53=>?_)
    ·refine .seq (.rg [] ?_)
     refine .ret ⟨.inr rfl,?_⟩
     exact Out.pl (by simp only[Tryz.results229];rfl) (by simp only[ag_,go_sem,seval]<;>(have q:=G (by simpa using h10) (by simpa using h12) (by simpa using h24);rw[T,if_neg (by simpa using h10),if_neg (by simpa using h12),if_neg (by simpa using h24),go_ (by omega),mi_ (by omega),if_neg (fun q2=>by rw[q2.1,q2.2]at h53;revert h53;decide)]))
    ·refine .skip (.seq (.seq (.rg [] ?_)))
     refine .cB (fun h56=>?_) (fun h56=>?_)
     ·refine .seq (.rg [] ?_)
      refine .ret ⟨.inr rfl,?_⟩
      exact Out.pl (by simp only[Tryz.results229];rfl) (by simp only[ag_,go_sem,seval]<;>(have q:=G (by simpa using h10) (by simpa using h12) (by simpa using h24);simp only[Bool.or_eq_false_iff,Bool.not_eq_false',beq_iff_eq]at h53;rw[T,if_neg (by simpa using h10),if_neg (by simpa using h12),if_neg (by simpa using h24),go_ (by omega),mi_ (by omega),if_pos (show lm_ N M (e.kids.getD 0 E0)=na_∧lm_ N M (e.kids.getD 1 E0)=na_ from h53),if_pos (by simpa using h56)];rfl))
     ·refine .skip (.seq (.rg [] ?_))
      refine .ret ⟨.inr rfl,?_⟩
      exact Out.pl (by simp only[Tryz.results229];rfl) (by simp only[ag_,go_sem,seval]<;>(have q:=G (by simpa using h10) (by simpa using h12) (by simpa using h24);simp only[Bool.or_eq_false_iff,Bool.not_eq_false',beq_iff_eq]at h53;rw[T,if_neg (by simpa using h10),if_neg (by simpa using h12),if_neg (by simpa using h24),go_ (by omega),mi_ (by omega),if_pos (show lm_ N M (e.kids.getD 0 E0)=na_∧lm_ N M (e.kids.getD 1 E0)=na_ from h53),if_neg (by simpa using h56)];rfl))
attribute [local go_sem] al_ aq_ in
theorem aeq_ (d:Nat):∀(e:E) (N M:List Str),form e d=true→N.length=M.length→N.length≤1000000→ACall En 247 [.ag (eC e),.sl false (an_ N),.sl false (an_ M)] [] [.s (lm_ N M e)] []:=by
 induction d with
 |zero=>intro e N M h;have:=(ar_ h).1;omega
 |succ d ih=>
 intro e N M h hl hn
 have e1:((d+1:Nat):Int) - 1=(d:Int):=by omega
 have g3:e.kind=3→e.kids.length=2∧form (e.kids.getD 0 E0) d=true∧form (e.kids.getD 1 E0) d=true∧fm_ e.s=true:=fun hk=>by
  rcases (ar_ h).2 with⟨k1,_⟩|⟨k1,_⟩|⟨k1,h1,h2,h3,h4,h5⟩|⟨k1,_⟩<;>try omega
  rw[e1]at h4 h5;exact⟨h3,h4,h5,h2⟩
 have g4:e.kind=4→e.kids.length=1∧form (e.kids.getD 0 E0) d=true:=fun hk=>by
  rcases (ar_ h).2 with⟨k1,_⟩|⟨k1,_⟩|⟨k1,_⟩|⟨k1,h1,h2,h3,h4⟩<;>try omega
  rw[e1]at h4;exact⟨h3,h4⟩
 have g0:¬e.kind=1→¬e.kind=2→¬e.kind=4→e.kind=3:=fun a b c=>by
  rcases (ar_ h).2 with⟨k1,_⟩|⟨k1,_⟩|⟨k1,_⟩|⟨k1,_⟩<;>omega
 have hb:=p9_ N e.s
 have T:=ai9_ N M e
 have G:=fun a b c=>(g3 (g0 a b c))
 refine aa_ [] Tryz.func247 Tryz.ntmps247 fun C=>?_
 refine .seq (.rg [] ?_)
 refine .seq (.seq (.rg [] ?_))
 refine .block (.seq (.rg [] ?_))
 refine .cB (fun h10=>?_) (fun h10=>?_)
 ·refine .seq (.rg [] ?_)
  refine .ret ⟨.inr rfl,?_⟩
  exact Out.pl (by simp only[Tryz.results247];rfl) (by simp only[ag_,go_sem,seval]<;>(rw[T,if_pos (by simpa using h10)];rfl))
 ·refine .seq (.rg [] ?_)
  refine .cB (fun h12=>?_) (fun h12=>?_)
  ·refine .seq (.rg [ab_ (aja_ N e.s (by omega))] ?_)
   refine .seq (.seq (.rg [] ?_))
   refine .cB (fun h19=>?_) (fun h19=>?_)
   ·refine .seq (.rg [] ?_)
    refine .ret ⟨.inr rfl,?_⟩
    exact Out.pl (by simp only[Tryz.results247];rfl) (by simp only[ag_,go_sem,seval]<;>(rw[T,if_neg (by simpa using h10),if_pos (by simpa using h12),if_neg (by simpa using h19)]))
   ·refine .skip (.seq (.rgo [] ?_ ?_ (h:=by simp only[go_sem,seval,aw_ (show(ff_ N e.s).toNat<M.length by simp at h19;omega)];rfl)))
    ·simp at h19;(try simp);omega
    refine .ret ⟨.inr rfl,?_⟩
    exact Out.pl (by simp only[Tryz.results247];rfl) (by simp only[ag_,go_sem,seval]<;>(rw[T,if_neg (by simpa using h10),if_pos (by simpa using h12),if_pos (by simpa using h19)]))
  ·refine .seq (.rg [] ?_)
   refine .cB (fun h24=>?_) (fun h24=>?_)
   ·refine .seq (.seq (.rgo [ab_ (ih (e.kids.getD 0 E0) N M (g4 (by simpa using h24)).2 hl hn)] ?_ ?_ (h:=by simp only[go_sem,seval,b7_ (show 0<e.kids.length by have:=g4 (by simpa using h24);omega)];rfl)))
    ·have:=g4 (by simpa using h24);simp;omega
    refine .cB (fun h33=>?_) (fun h33=>?_)
    ·refine .seq (.rg [] ?_)
     refine .ret ⟨.inr rfl,?_⟩
     exact Out.pl (by simp only[Tryz.results247];rfl) (by simp only[ag_,go_sem,seval]<;>(rw[T,if_neg (by simpa using h10),if_neg (by simpa using h12),if_pos (by simpa using h24),go_ (by have:=g4 (by simpa using h24);omega),if_pos (by simpa using h33)]))
    ·refine .skip (.seq (.rg [] ?_))
     refine .ret ⟨.inr rfl,?_⟩
     exact Out.pl (by simp only[Tryz.results247];rfl) (by simp only[ag_,go_sem,seval]<;>(rw[T,if_neg (by simpa using h10),if_neg (by simpa using h12),if_pos (by simpa using h24),go_ (by have:=g4 (by simpa using h24);omega),if_neg (by simpa using h33)]))
   ·refine .skip (.seq (.seq (.rgo [ab_ (ih (e.kids.getD 0 E0) N M (G (by simpa using h10) (by simpa using h12) (by simpa using h24)).2.1 hl hn),ab_ (ih (e.kids.getD 1 E0) N M (G (by simpa using h10) (by simpa using h12) (by simpa using h24)).2.2.1 hl hn)] ?_ ?_ (h:=by simp only[go_sem,seval,b7_ (show 0<e.kids.length by have:=G (by simpa using h10) (by simpa using h12) (by simpa using h24);omega),b7_ (show 1<e.kids.length by have:=G (by simpa using h10) (by simpa using h12) (by simpa using h24);omega)];rfl))))
    ·have:=G (by simpa using h10) (by simpa using h12) (by simpa using h24);exact⟨⟨by omega,fun q=>⟨q,by omega⟩⟩,fun q=>by rw[q];rfl⟩
    refine .cB (fun h53=>?_) (fun h53=>?_)
    ·refine .seq (.rg [] ?_)
     refine .ret ⟨.inr rfl,?_⟩
     exact Out.pl (by simp only[Tryz.results247];rfl) (by simp only[ag_,go_sem,seval]<;>(have q:=G (by simpa using h10) (by simpa using h12) (by simpa using h24);rw[T,if_neg (by simpa using h10),if_neg (by simpa using h12),if_neg (by simpa using h24),go_ (by omega),mi_ (by omega),if_neg (fun q2=>by rw[q2.1,q2.2]at h53;revert h53;decide)]))
    ·refine .skip (.seq (.seq (.rg [] ?_)))
     refine .cB (fun h56=>?_) (fun h56=>?_)
     ·refine .seq (.rg [] ?_)
      refine .ret ⟨.inr rfl,?_⟩
      exact Out.pl (by simp only[Tryz.results247];rfl) (by simp only[ag_,go_sem,seval]<;>(have q:=G (by simpa using h10) (by simpa using h12) (by simpa using h24);simp only[Bool.or_eq_false_iff,Bool.not_eq_false',beq_iff_eq]at h53;rw[T,if_neg (by simpa using h10),if_neg (by simpa using h12),if_neg (by simpa using h24),go_ (by omega),mi_ (by omega),if_pos (show lm_ N M (e.kids.getD 0 E0)=na_∧lm_ N M (e.kids.getD 1 E0)=na_ from h53),if_pos (by simpa using h56)];rfl))
     ·refine .skip (.seq (.rg [] ?_))
      refine .ret ⟨.inr rfl,?_⟩
      exact Out.pl (by simp only[Tryz.results247];rfl) (by simp only[ag_,go_sem,seval]<;>(have q:=G (by simpa using h10) (by simpa using h12) (by simpa using h24);simp only[Bool.or_eq_false_iff,Bool.not_eq_false',beq_iff_eq]at h53;rw[T,if_neg (by simpa using h10),if_neg (by simpa using h12),if_neg (by simpa using h24),go_ (by omega),mi_ (by omega),if_pos (show lm_ N M (e.kids.getD 0 E0)=na_∧lm_ N M (e.kids.getD 1 E0)=na_ from h53),if_neg (by simpa using h56)];rfl))
attribute [local go_sem] aq_ in
theorem abg_ (e:E) (N M:List Str) (h:g0_ e=true∨eok e=true) (hs:sm e=true) (hl:N.length=M.length) (hn:N.length≤1000000):ACall En 161 [.ag (eC e),.sl false (an_ N),.sl false (an_ M)] [] [.s (z3_ N M e)] []:=by
 refine aa_ [] Tryz.func161 Tryz.ntmps161 fun C=>?_
 refine .seq (.rg [] ?_)
 refine .seq (.seq (.rg [ab_ (e7_ e hs)] ?_))
 refine .cB (fun h8=>?_) (fun h8=>?_)
 ·refine .seq (.rg [] ?_)
  refine .ret ⟨.inr rfl,?_⟩
  exact Out.pl (by simp only[Tryz.results161];rfl) (by simp only[ag_,go_sem,seval]<;>(unfold z3_;rw[if_pos h8]))
 ·refine .skip (.seq (.rgo [a4_ (eok e=true) (fun h=>auy_ 5 e N M (ay_ h) hl hn)] ?_ ?_))
  ·exact h.resolve_left (by simpa using h8)
  refine .ret ⟨.inr rfl,?_⟩
  exact Out.pl (by simp only[Tryz.results161];rfl) (by simp only[ag_,go_sem,seval]<;>(unfold z3_;rw[if_neg (by simpa using h8)]))
attribute [local go_sem] br_ aq_ in
theorem aww_ (s:Sl) (h:sok s=true) (N M:List Str) (hl:N.length=M.length) (hn:N.length≤1000000):ACall En 192 [.ag (sC s),.sl false (an_ N),.sl false (an_ M)] [] [.b (p2_ N M s)] []:=by
 have hk:=adb_ h
 have X:s.kind≠0→eok s.expr=true:=fun k=>o5_ h k
 have Y:s.kind=3→eok s.thn=true:=fun k=>tp_ h k
 refine aa_ [] Tryz.func192 Tryz.ntmps192 fun C=>?_
 refine .seq (.rg [] ?_)
 refine .seq (.seq (.rg [] ?_))
 refine .cB (fun h10=>?_) (fun h10=>?_)
 ·refine .seq (.rg [] ?_)
  refine .ret ⟨.inr rfl,?_⟩
  exact Out.pl (by simp only[Tryz.results192];rfl) (by simp only[ag_,go_sem,seval]<;>(simp at h10;simp[p2_,h10]))
 ·refine .skip (.seq (.rgo [a4_ (s.kind≠0) (fun k=>aeq_ 5 s.expr N M (ay_ (X k)) hl hn)] ?_ ?_))
  ·simpa using h10
  refine .seq (.seq (.rg [] ?_))
  refine .block (.seq (.rg [] ?_))
  refine .cB (fun h18=>?_) (fun h18=>?_)
  ·refine .seq (.rg [] ?_)
   refine .ret ⟨.inr rfl,?_⟩
   exact Out.pl (by simp only[Tryz.results192];rfl) (by simp only[ag_,go_sem,seval]<;>(simp at h10 h18;simp[p2_,h18,n8_ (X h10)]))
  ·refine .seq (.rg [] ?_)
   refine .cB (fun h24=>?_) (fun h24=>?_)
   ·refine .seq (.rg [] ?_)
    refine .ret ⟨.inr rfl,?_⟩
    exact Out.pl (by simp only[Tryz.results192];rfl) (by simp only[ag_,go_sem,seval]<;>(simp at h10 h18 h24;simp[p2_,h24,n8_ (X h10)]))
   ·refine .seq (.rg [] ?_)
    refine .cB (fun h28=>?_) (fun h28=>?_)
    ·refine .seq (.rgo [a4_ (s.kind=3) (fun k=>aeq_ 5 s.thn N M (ay_ (Y k)) hl hn)] ?_ ?_)
     ·simp at h28;exact fun q=>⟨q,h28⟩
     refine .ret ⟨.inr rfl,?_⟩
     exact Out.pl (by simp only[Tryz.results192];rfl) (by simp only[ag_,go_sem,seval]<;>(simp at h10 h18 h24 h28;simp[p2_,h28,n8_ (X h10),n8_ (Y h28),aim_]))
    ·refine .skip (.seq (.rg [] ?_))
     refine .ret ⟨.inr rfl,?_⟩
     exact Out.pl (by simp only[Tryz.results192];rfl) (by simp only[ag_,go_sem,seval]<;>(simp at h10 h18 h24 h28;omega))
theorem h3_ {l:List Sl} {k:Nat} (h:k<l.length) (hk:(l.getD k S0).kind=1):tyN l (k+1)=tyN l k++[(l.getD k S0).name]∧tyT l (k+1)=tyT l k++[(l.getD k S0).type]:=by
 rw[aiw_ h,ah8_ h,if_pos hk,if_pos hk];exact⟨rfl,rfl⟩
theorem h6_ {l:List Sl} {k:Nat} (h:k<l.length) (hk:¬(l.getD k S0).kind=1):tyN l (k+1)=tyN l k∧tyT l (k+1)=tyT l k:=by
 rw[aiw_ h,ah8_ h,if_neg hk,if_neg hk];exact⟨List.append_nil _,List.append_nil _⟩
theorem yg_ {l:List Sl} {k:Nat} (hp:pok l=true) (hk:k<l.length) (h:j0_ l k=false) (ha:∀j,j<k→j0_ l j=true):gy_ l=k:=by
 unfold gy_
 rw[if_pos hp]
 have:(List.range l.length).find? (fun k=>!j0_ l k)=some k:=by
  rw[List.find?_range_eq_some]
  exact⟨by simp[h],by simpa using hk,fun j hj=>by simp[ha j hj]⟩
 rw[this]
theorem vl_ {l:List Sl} (hp:pok l=true) (ha:∀j,j<l.length→j0_ l j=true):gy_ l = -1:=by
 unfold gy_
 rw[if_pos hp]
 have:(List.range l.length).find? (fun k=>!j0_ l k)=none:=by
  rw[List.find?_eq_none]
  intro j hj;simp[ha j (by simpa using hj)]
 rw[this]
end
section
set_option maxRecDepth 100000
set_option maxHeartbeats 8000000
attribute [local go_sem] ep_ dx_ br_ al_ aq_ at_ bm_ in
theorem acm_ (l:List Sl) (hs:oh_ l=true) (hl:l.length<4611686018427387904):ACall En 92 [.sl false (sR l)] [] [.i .i64 (gy_ l)] []:=by
 have hT:=fun k=>(aji_ l k).1
 have hn:=fun k=>(aji_ l k).2
 have W:=fun k (hp:pok l=true) (h:k<l.length)=>ap4_ ((a3_ hp).2.2 k h)
 have Sm:=fun k (h:k<l.length)=>(hz_ (zd_ hs h)).2.2
 refine aa_ [] Tryz.func92 Tryz.ntmps92 fun C=>?_
 refine .seq (.rg [] ?_)
 refine .seq (.seq (.rg [ab_ (qc_ l hs hl)] ?_))
 refine .cB (fun h12=>?_) (fun h12=>?_)
 ·refine .seq (.rg [] ?_)
  refine .ret ⟨.inr rfl,?_⟩
  exact Out.pl (by simp only[Tryz.results92];rfl) (by simp only[ag_,go_sem,seval]<;>(simp at h12;simp[gy_,h12]))
 ·refine .skip (.seq (.rg [] ?_))
  refine .seq (.seq (.rg [] ?_))
  refine .block (.loopK (fun k:Nat=>⟨[.no,.no,.no,.ow 20 1 0 (tyN l k).length,.ow 21 1 0 (tyT l k).length,.no,.no,.no,.no,.no,.no,.no,.no,.sl false (sR l),.i .i64 l.length,.i .i64 k,.no,.no,.no,.no,.no,.no,.no,.no,.no,.no,.no,.no,.no,.no,.no,.no,.no,.no,.no,.no,.no,.no,.no,.no,.no,.no,.no,.no,.no,.no,.no,.no,.no,.no,.no,.no,.no,.no,.no,.no,.no,.no,.no,.no,.no,.no,.no,.no],ak_ [(20,⟨9,1,an_ (tyN l k)⟩),(21,⟨9,1,an_ (tyT l k)⟩)],us [20,21]⟩) (fun k:Nat=>k≤l.length∧pok l=true∧∀j,j<k→j0_ l j=true) (fun k:Nat=>l.length - k) (0) ?_ ?_ (fun k hI=>?_))
  ·exact⟨Nat.zero_le _,by simpa using h12,fun j hj=>absurd hj (by omega)⟩
  ·refine Can.trans (Can.ownSlot 3 20 9 1 (by simp only[go_sem,seval]<;>rfl) (by simp only[go_sem,seval]) (by simp only[go_sem,seval]<;>rfl)) ?_
   refine Can.trans (Can.ownSlot 4 21 9 1 (by simp only[go_sem,seval]<;>rfl) (by simp only[go_sem,seval]) (by simp only[go_sem,seval]<;>rfl)) ?_
   refine Can.wk ?_ ?_
   ·first|trivial|(exact⟨rfl,rfl⟩)
   ·first|trivial|(exact⟨rfl,rfl⟩)
  refine .seq (.rg [] ?_)
  refine .seq (.cB (fun h16=>?_) (fun h16=>?_))
  ·refine .skip (.seq (.block (.seq (.rgo [] ?_ ?_ (h:=by simp only[go_sem,seval,k0_ (show k<l.length by simpa using h16),br_];rfl)))))
   ·simp at h16;simp;omega
   refine .seq (.rgDo [kh_ (abg_ (l.getD k S0).expr (tyN l k) (tyT l k) (W k hI.2.1 (by simpa using h16)).1 (Sm k (by simpa using h16)).1 (hT k) (by have:=hn k;have:=(a3_ hI.2.1).2.1;omega)),kh_ (abg_ (l.getD k S0).thn (tyN l k) (tyT l k) (W k hI.2.1 (by simpa using h16)).2 (Sm k (by simpa using h16)).2 (hT k) (by have:=hn k;have:=(a3_ hI.2.1).2.1;omega))] ?_ ?_)
   ·rw[T1_ (by rw[al_];exact Nat.le_refl _),T1_ (by rw[al_];exact Nat.le_refl _)];exact⟨af_ _,af_ _⟩
   refine .seq (.rg [] ?_)
   refine .seqJ (fun u:Unit=>⟨[.no,.no,.no,.ow 20 1 0 (tyN l (k+1)).length,.ow 21 1 0 (tyT l (k+1)).length,.i .i64 k,.no,.no,.no,.b (j0_ l k),.no,.no,.no,.sl false (sR l),.i .i64 l.length,.i .i64 k,.no,.no,.no,.no,.no,.no,.no,.no,.no,.no,.no,.no,.no,.no,.no,.no,.no,.no,.no,.no,.no,.no,.no,.no,.no,.no,.no,.no,.no,.no,.no,.no,.no,.no,.no,.no,.no,.no,.no,.no,.no,.no,.no,.no,.no,.no,.no,.no],ak_ [(20,⟨9,1,an_ (tyN l (k+1))⟩),(21,⟨9,1,an_ (tyT l (k+1))⟩)],us [20,21]⟩) (fun u:Unit=>k<l.length) ?_ (fun u hJ=>?_)
   ·refine .seq (.rg [] ?_)
    refine .block (.seq (.rg [] ?_))
    refine .cB (fun h32=>?_) (fun h32=>?_)
    ·refine .seq (.rg [] ?_)
     refine .rgDo [] ?_ ?_
     ·have:=hn k;have:=hT k;have:=(a3_ hI.2.1).2.1;exact⟨⟨fun r hr=>by simp at hr;subst hr;rfl,by simp,by omega⟩,fun r hr=>by simp at hr;subst hr;rfl,by simp,by omega⟩
     refine Exists.intro (()) ⟨?_,?_⟩
     ·simpa using h16
     refine Can.trans (Can.sX 52 20) ?_
     refine Can.trans (Can.sX 57 21) ?_
     refine Can.wk ?_ ?_
     ·first|trivial|(first|(have q:(l.getD k S0).kind=1:=(by simpa using h32);have e:=h3_ (by simpa using h16) q;rw[e.1,e.2];refine⟨by simp,by simp,?_⟩;unfold j0_ p2_;rw[if_pos q])|(have q:¬(l.getD k S0).kind=1:=(by simpa using h32);have e:=h6_ (by simpa using h16) q;rw[e.1,e.2];refine⟨rfl,rfl,?_⟩;unfold j0_ p2_;rw[if_neg q];first|(rw[if_pos (by simpa using h48)];done)|(rw[if_neg (by simpa using h48),if_pos (by simpa using h52)];rfl)|(rw[if_neg (by simpa using h48),if_neg (by simpa using h52)];done)))
     ·first|trivial|(first|(have q:(l.getD k S0).kind=1:=(by simpa using h32);have e:=h3_ (by simpa using h16) q;rw[e.1,e.2,b6_,b6_];exact⟨rfl,rfl⟩)|(have q:¬(l.getD k S0).kind=1:=(by simpa using h32);have e:=h6_ (by simpa using h16) q;rw[e.1,e.2];exact⟨rfl,rfl⟩))
    ·refine .seq (.rg [] ?_)
     refine .cB (fun h48=>?_) (fun h48=>?_)
     ·refine .rg [] ?_
      refine Exists.intro (()) ⟨?_,?_⟩
      ·simpa using h16
      refine Can.wk ?_ ?_
      ·first|trivial|(first|(have q:(l.getD k S0).kind=1:=(by simpa using h32);have e:=h3_ (by simpa using h16) q;rw[e.1,e.2];refine⟨by simp,by simp,?_⟩;unfold j0_ p2_;rw[if_pos q])|(have q:¬(l.getD k S0).kind=1:=(by simpa using h32);have e:=h6_ (by simpa using h16) q;rw[e.1,e.2];refine⟨rfl,rfl,?_⟩;unfold j0_ p2_;rw[if_neg q];first|(rw[if_pos (by simpa using h48)];done)|(rw[if_neg (by simpa using h48),if_pos (by simpa using h52)];rfl)|(rw[if_neg (by simpa using h48),if_neg (by simpa using h52)];done)))
      ·first|trivial|(first|(have q:(l.getD k S0).kind=1:=(by simpa using h32);have e:=h3_ (by simpa using h16) q;rw[e.1,e.2,b6_,b6_];exact⟨rfl,rfl⟩)|(have q:¬(l.getD k S0).kind=1:=(by simpa using h32);have e:=h6_ (by simpa using h16) q;rw[e.1,e.2];exact⟨rfl,rfl⟩))
     ·refine .seq (.rg [] ?_)
      refine .cB (fun h52=>?_) (fun h52=>?_)
      ·refine .rg [] ?_
       refine Exists.intro (()) ⟨?_,?_⟩
       ·simpa using h16
       refine Can.wk ?_ ?_
       ·first|trivial|(first|(have q:(l.getD k S0).kind=1:=(by simpa using h32);have e:=h3_ (by simpa using h16) q;rw[e.1,e.2];refine⟨by simp,by simp,?_⟩;unfold j0_ p2_;rw[if_pos q])|(have q:¬(l.getD k S0).kind=1:=(by simpa using h32);have e:=h6_ (by simpa using h16) q;rw[e.1,e.2];refine⟨rfl,rfl,?_⟩;unfold j0_ p2_;rw[if_neg q];first|(rw[if_pos (by simpa using h48)];done)|(rw[if_neg (by simpa using h48),if_pos (by simpa using h52)];rfl)|(rw[if_neg (by simpa using h48),if_neg (by simpa using h52)];done)))
       ·first|trivial|(first|(have q:(l.getD k S0).kind=1:=(by simpa using h32);have e:=h3_ (by simpa using h16) q;rw[e.1,e.2,b6_,b6_];exact⟨rfl,rfl⟩)|(have q:¬(l.getD k S0).kind=1:=(by simpa using h32);have e:=h6_ (by simpa using h16) q;rw[e.1,e.2];exact⟨rfl,rfl⟩))
      ·refine .skip ?_
       refine Exists.intro (()) ⟨?_,?_⟩
       ·simpa using h16
       refine Can.wk ?_ ?_
       ·first|trivial|(first|(have q:(l.getD k S0).kind=1:=(by simpa using h32);have e:=h3_ (by simpa using h16) q;rw[e.1,e.2];refine⟨by simp,by simp,?_⟩;unfold j0_ p2_;rw[if_pos q])|(have q:¬(l.getD k S0).kind=1:=(by simpa using h32);have e:=h6_ (by simpa using h16) q;rw[e.1,e.2];refine⟨rfl,rfl,?_⟩;unfold j0_ p2_;rw[if_neg q];first|(rw[if_pos (by simpa using h48)];done)|(rw[if_neg (by simpa using h48),if_pos (by simpa using h52)];rfl)|(rw[if_neg (by simpa using h48),if_neg (by simpa using h52)];done)))
       ·first|trivial|(first|(have q:(l.getD k S0).kind=1:=(by simpa using h32);have e:=h3_ (by simpa using h16) q;rw[e.1,e.2,b6_,b6_];exact⟨rfl,rfl⟩)|(have q:¬(l.getD k S0).kind=1:=(by simpa using h32);have e:=h6_ (by simpa using h16) q;rw[e.1,e.2];exact⟨rfl,rfl⟩))
   refine .seq (.rg [] ?_)
   refine .cB (fun h61=>?_) (fun h61=>?_)
   ·refine .seq (.rg [] ?_)
    refine .ret ⟨.inr rfl,?_⟩
    exact Out.pl (by simp only[Tryz.results92];rfl) (by simp only[ag_,go_sem,seval]<;>(rw[yg_ hI.2.1 (by simpa using h16) (by simpa using h61) hI.2.2]))
   ·refine .skip (.rg [] ?_)
    refine Exists.intro (k+1) ⟨?_,?_,?_⟩
    ·simp at h16 h61;exact⟨by omega,hI.2.1,fun j hj=>by by_cases e:j=k;(subst e;exact h61);exact hI.2.2 j (by omega)⟩
    ·simp at h16;omega
    refine Can.wk ?_ ?_
    ·first|trivial|(rw[aj_ (by simp at h16;omega) (by simp at h16;omega)];simp)
    ·first|trivial|((try rfl))
  ·refine .exit (.seq (.rg [] ?_))
   refine .ret ⟨.inr rfl,?_⟩
   exact Out.pl (by simp only[Tryz.results92];rfl) (by simp only[ag_,go_sem,seval]<;>(simp only[T4_]at h16;rw[vl_ hI.2.1 fun j hj=>hI.2.2 j (by omega)]))
attribute [local go_sem] ep_ dx_ br_ al_ aq_ at_ bm_ in
theorem afc_ (l:List Sl) (hs:oh_ l=true) (hl:l.length<4611686018427387904):ACall En 125 [.sl false (sR l)] [] [.i .i64 (gy_ l)] []:=by
 have hT:=fun k=>(aji_ l k).1
 have hn:=fun k=>(aji_ l k).2
 have W:=fun k (hp:pok l=true) (h:k<l.length)=>(a3_ hp).2.2 k h
 refine aa_ [] Tryz.func125 Tryz.ntmps125 fun C=>?_
 refine .seq (.rg [] ?_)
 refine .seq (.seq (.rg [ab_ (qz_ l hs hl)] ?_))
 refine .cB (fun h8=>?_) (fun h8=>?_)
 ·refine .seq (.rg [] ?_)
  refine .ret ⟨.inr rfl,?_⟩
  exact Out.pl (by simp only[Tryz.results125];rfl) (by simp only[ag_,go_sem,seval]<;>(simp at h8;simp[gy_,h8]))
 ·refine .skip (.seq (.rg [] ?_))
  refine .seq (.rg [] ?_)
  refine .seq (.seq (.rg [] ?_))
  refine .block (.loopK (fun k:Nat=>⟨[.sl false (sR l),.no,.no,.ow 20 1 0 (tyN l k).length,.ow 21 1 0 (tyT l k).length,.i .i64 k,.no,.no,.no,.no,.no,.no,.no,.no,.no,.no,.no,.no,.no,.no,.no,.no,.no,.no,.no,.no,.no,.no,.no,.no,.no,.no,.no,.no,.no,.no,.no,.no,.no,.no,.no,.no,.no,.no,.no,.no,.no,.no],ak_ [(20,⟨9,1,an_ (tyN l k)⟩),(21,⟨9,1,an_ (tyT l k)⟩)],us [20,21]⟩) (fun k:Nat=>k≤l.length∧pok l=true∧∀j,j<k→j0_ l j=true) (fun k:Nat=>l.length - k) (0) ?_ ?_ (fun k hI=>?_))
  ·exact⟨Nat.zero_le _,by simpa using h8,fun j hj=>absurd hj (by omega)⟩
  ·refine Can.trans (Can.ownSlot 3 20 9 1 (by simp only[go_sem,seval]<;>rfl) (by simp only[go_sem,seval]) (by simp only[go_sem,seval]<;>rfl)) ?_
   refine Can.trans (Can.ownSlot 4 21 9 1 (by simp only[go_sem,seval]<;>rfl) (by simp only[go_sem,seval]) (by simp only[go_sem,seval]<;>rfl)) ?_
   refine Can.wk ?_ ?_
   ·first|trivial|(exact⟨rfl,rfl⟩)
   ·first|trivial|(exact⟨rfl,rfl⟩)
  refine .seq (.seq (.rg [] ?_))
  refine .cB (fun h14=>?_) (fun h14=>?_)
  ·refine .skip (.seqJ (fun u:Unit=>⟨[.sl false (sR l),.no,.no,.ow 20 1 0 (tyN l (k+1)).length,.ow 21 1 0 (tyT l (k+1)).length,.i .i64 k,.no,.no,.no,.no,.no,.no,.no,.no,.no,.no,.no,.no,.no,.no,.no,.no,.no,.no,.no,.no,.no,.no,.no,.no,.no,.no,.no,.no,.no,.no,.no,.no,.no,.no,.no,.no,.no,.no,.no,.no,.no,.no],ak_ [(20,⟨9,1,an_ (tyN l (k+1))⟩),(21,⟨9,1,an_ (tyT l (k+1))⟩)],us [20,21]⟩) (fun u:Unit=>j0_ l k=true) ?_ (fun u hJ=>?_))
   ·refine .block (.seq (.seq (.rgo [kh_ (aww_ (l.getD k S0) (W k hI.2.1 (by simpa using h14)) (tyN l k) (tyT l k) (hT k) (by have:=hn k;have:=(a3_ hI.2.1).2.1;omega))] ?_ ?_ (h:=by simp only[go_sem,seval,k0_ (show k<l.length by simpa using h14),br_];rfl))))
    ·simp at h14;rw[T1_ (by rw[al_];exact Nat.le_refl _),T1_ (by rw[al_];exact Nat.le_refl _)];exact⟨by omega,af_ _,af_ _⟩
    refine .cB (fun h24=>?_) (fun h24=>?_)
    ·refine .seq (.rg [] ?_)
     refine .ret ⟨.inr rfl,?_⟩
     exact Out.pl (by simp only[Tryz.results125];rfl) (by simp only[ag_,go_sem,seval]<;>(rw[yg_ hI.2.1 (by simpa using h14) (by simpa[j0_]using h24) hI.2.2]))
    ·refine .skip (.seq (.rgo [] ?_ ?_ (h:=by simp only[go_sem,seval,k0_ (show k<l.length by simpa using h14),br_];rfl)))
     ·simp at h14;omega
     refine .cB (fun h31=>?_) (fun h31=>?_)
     ·refine .seq (.rgo [] ?_ ?_ (h:=by simp only[go_sem,seval,k0_ (show k<l.length by simpa using h14),br_];rfl))
      ·simp at h14;have:=hn k;have:=hT k;have:=(a3_ hI.2.1).2.1;exact⟨by omega,fun r hr=>by simp at hr;subst hr;rfl,by simp,by omega⟩
      refine .rgo [] ?_ ?_ (h:=by simp only[go_sem,seval,k0_ (show k<l.length by simpa using h14),br_];rfl)
      ·simp at h14;have:=hn k;have:=hT k;have:=(a3_ hI.2.1).2.1;exact⟨by omega,fun r hr=>by simp at hr;subst hr;rfl,by simp,by omega⟩
      refine Exists.intro (()) ⟨?_,?_⟩
      ·simpa[j0_]using h24
      refine Can.trans (Can.sX 49 20) ?_
      refine Can.trans (Can.sX 57 21) ?_
      refine Can.wk ?_ ?_
      ·first|trivial|(first|(have q:(l.getD k S0).kind=1:=(by simpa using h31);have e:=h3_ (by simpa using h14) q;rw[e.1,e.2];simp;done)|(have q:¬(l.getD k S0).kind=1:=(by simpa using h31);have e:=h6_ (by simpa using h14) q;rw[e.1,e.2];simp;done))
      ·first|trivial|(first|(have q:(l.getD k S0).kind=1:=(by simpa using h31);have e:=h3_ (by simpa using h14) q;rw[e.1,e.2,b6_,b6_];exact⟨rfl,rfl⟩)|(have q:¬(l.getD k S0).kind=1:=(by simpa using h31);have e:=h6_ (by simpa using h14) q;rw[e.1,e.2];exact⟨rfl,rfl⟩))
     ·refine .skip ?_
      refine Exists.intro (()) ⟨?_,?_⟩
      ·simpa[j0_]using h24
      refine Can.wk ?_ ?_
      ·first|trivial|(first|(have q:(l.getD k S0).kind=1:=(by simpa using h31);have e:=h3_ (by simpa using h14) q;rw[e.1,e.2];simp;done)|(have q:¬(l.getD k S0).kind=1:=(by simpa using h31);have e:=h6_ (by simpa using h14) q;rw[e.1,e.2];simp;done))
      ·first|trivial|(first|(have q:(l.getD k S0).kind=1:=(by simpa using h31);have e:=h3_ (by simpa using h14) q;rw[e.1,e.2,b6_,b6_];exact⟨rfl,rfl⟩)|(have q:¬(l.getD k S0).kind=1:=(by simpa using h31);have e:=h6_ (by simpa using h14) q;rw[e.1,e.2];exact⟨rfl,rfl⟩))
   refine .rg [] ?_
   refine Exists.intro (k+1) ⟨?_,?_,?_⟩
   ·simp at h14;exact⟨by omega,hI.2.1,fun j hj=>by by_cases e:j=k;(subst e;exact hJ);exact hI.2.2 j (by omega)⟩
   ·simp at h14;omega
   refine Can.wk ?_ ?_
   ·first|trivial|(rw[aj_ (by simp at h14;omega) (by simp at h14;omega)];simp)
   ·first|trivial|((try rfl))
  ·refine .exit (.seq (.rg [] ?_))
   refine .ret ⟨.inr rfl,?_⟩
   exact Out.pl (by simp only[Tryz.results125];rfl) (by simp only[ag_,go_sem,seval]<;>(simp only[T4_]at h14;rw[vl_ hI.2.1 fun j hj=>hI.2.2 j (by omega)]))
end
section
set_option maxRecDepth 100000
set_option maxHeartbeats 4000000
theorem axz_ {l:List Sl} (h:16<l.length):pok l=false:=by unfold pok;rw[show decide (l.length≤16)=false by simpa using h];simp
attribute [local go_sem] al_ aq_ dx_ ep_ br_ at_ in
theorem ald_ (ls:List Str) (hM:∀w∈ls,w.length≤4000) (hL:ls.length≤1000000):ACall En 190 [.sl false (an_ ls)] [] [.sl false (sR (if lj_ ls&&pok (ls.map f0_)then ls.map f0_ else [])),.b (lj_ ls&&pok (ls.map f0_))] []:=by
 have hst:∀k,k<ls.length→((ls.take (k+1)).map f0_)=((ls.take k).map f0_)++[(ci_ (ls.getD k [])).getD S0]:=fun k h=>by
  rw[List.take_add_one,T6_ h,T8_,T6_ h,List.map_append];rfl
 refine aa_ [] Tryz.func190 Tryz.ntmps190 fun C=>?_
 refine .seq (.rg [] ?_)
 refine .seq (.rg [] ?_)
 refine .seq (.seq (.rg [] ?_))
 refine .block (.loopK (fun k:Nat=>⟨[.sl false (an_ ls),.no,.no,.no,.ow 80 11 0 k,.i .i64 k,.no,.no,.no,.no,.no,.no,.no,.no,.no,.no,.no,.no,.no,.no,.no,.no,.no,.no,.no,.no,.no,.no,.no,.no,.no,.no,.no,.no,.no,.no,.no],ak_ [(80,⟨58,11,sR ((ls.take k).map f0_)⟩)],us [80]⟩) (fun k:Nat=>k≤ls.length∧lj_ (ls.take k)=true∧k≤17) (fun k:Nat=>ls.length - k) (0) ?_ ?_ (fun k hI=>?_))
 ·exact⟨Nat.zero_le _,rfl,by omega⟩
 ·refine Can.trans (Can.ownSlot 4 80 58 11 (by simp only[go_sem,seval]<;>rfl) (by simp only[go_sem,seval]) (by simp only[go_sem,seval]<;>rfl)) ?_
  refine Can.wk ?_ ?_
  ·first|trivial|((try simp))
  ·first|trivial|((try simp[sR]))
 refine .seq (.seq (.rg [] ?_))
 refine .cB (fun h16=>?_) (fun h16=>?_)
 ·refine .skip (.seq (.block (.seq (.rgo [a4_ (k<ls.length) (fun h=>r3_ (ls.getD k []) (by have:=hM _ (am_ (d:=[]) h);omega))] ?_ ?_ (h:=by simp only[go_sem,seval,aw_ (show k<ls.length by simp at h16;exact h16.1)];rfl)))))
  ·simp at h16;simp;omega
  refine .seq (.seq (.rg [] ?_))
  refine .cB (fun h28=>?_) (fun h28=>?_)
  ·refine .seq (.rg [] ?_)
   refine .ret ⟨.inr rfl,?_⟩
   exact Out.plL (by simp only[Tryz.results190];rfl) (by simp only[ag_,go_sem,seval]<;>(simp at h16;rw[ab8_ (k:=k) h16.1 (by simpa using h28)];exact⟨by simp[sR,ler],rfl⟩))
  ·refine .skip (.rgo [] ?_ ?_)
   ·simp at h16;simp;omega
   refine .rg [] ?_
   refine Exists.intro (k+1) ⟨?_,?_,?_⟩
   ·simp at h16;refine⟨by omega,?_,by omega⟩;rw[um_ h16.1,hI.2.1];simpa using h28
   ·simp at h16;omega
   refine Can.trans (Can.sX 42 80) ?_
   refine Can.wk ?_ ?_
   ·first|trivial|(rw[aj_ (by simp at h16;omega) (by simp at h16;omega)];(try simp))
   ·first|trivial|(rw[hst k (by simp at h16;exact h16.1)];simp[sR,br_])
 ·refine .exit (.seq (.seq (.rgo [kh_ (qz_ ((ls.take k).map f0_) (jo_ (ls.take k)) (by simp;omega))] ?_ ?_)))
  ·have hk:=hI.1;simp[T1_,ep_,af_];rw[if_pos (by omega),T1_ (by rw[ep_,List.length_take];omega)];exact fp_ _
  refine .cB (fun h35=>?_) (fun h35=>?_)
  ·refine .seq (.rg [] ?_)
   refine .ret ⟨.inr rfl,?_⟩
   exact Out.plL (by simp only[Tryz.results190];rfl) (by simp only[ag_,go_sem,seval]<;>(have e:=h35;simp only[Bool.not_eq_true']at e;have e2:pok (ls.map f0_)=false:=(by rcases Nat.lt_or_ge k ls.length with h|h;exact axz_ (by simp at h16 ⊢;omega);rw[T1_ h]at e;exact e);rw[e2,Bool.and_false];exact⟨by simp[sR,ler],rfl⟩))
  ·refine .skip (.seq (.rg [] ?_))
   refine .fX 80 ?_
   refine .ret ⟨.inr rfl,?_⟩
   exact Out.plL (by simp only[Tryz.results190];rfl) (by simp only[ag_,go_sem,seval]<;>(have e:=h35;simp only[Bool.not_eq_false']at e;have e3:=(a3_ e).2.1;simp at e3;have hk:ls.length≤k:=(by simp at h16;omega);have e4:=hI.2.1;rw[T1_ hk]at e e4;rw[e,e4,T1_ hk,if_pos (show k≤(ls.map f0_).length by simp;exact hI.1),if_pos (show(true&&true)=true from rfl),T1_ (by rw[ep_];simp;omega)];exact⟨fp_ _,rfl⟩))
attribute [local go_sem] aq_ dx_ in
theorem ad0_ (s:Str) (hs:s.length≤281474976710656):ACall En 124 [.s s] [] [.sl false (sR (prL s)),.b (prR s)] []:=by
 have hL:=e1_ s
 have hM:=hb_ s
 refine aa_ [] Tryz.func124 Tryz.ntmps124 fun C=>?_
 refine .seq (.rg [] ?_)
 refine .seq (.rg [ab_ (k8_ s hs),ab_ (ald_ (bt_ s) (fun w hw=>by have:=hM w hw;omega) (by omega))] ?_)
 refine .ret ⟨.inr rfl,?_⟩
 exact Out.pl (by simp only[Tryz.results124];rfl) (by simp only[ag_,go_sem,seval]<;>(rfl))
end
section
set_option maxRecDepth 100000
theorem qd_ {d:UInt8}:∀ {w:Str},d ∉ w→cp_ d w=[w]
 |[],_=>rfl
 |c::w,h=>by
  rw[cp_,if_neg (by rintro rfl;simp at h),qd_ (w:=w) fun q=>h (by simp[q])]
theorem ux_ {d:UInt8}:∀ {w:Str},d ∉ w→∀l,cp_ d (w++d::l)=w::cp_ d l
 |[],_,l=>by simp[cp_]
 |c::w,h,l=>by
  rw[List.cons_append,cp_,if_neg (by rintro rfl;simp at h),ux_ (w:=w) (fun q=>h (by simp[q])) l]
theorem ael_ {d:UInt8}:∀ {s:Str},Lib.indexByte s d = -1→d ∉ s
 |[],_=>by simp
 |b::l,h=>by
  have hg:=ns_ l d
  unfold Lib.indexByte at h
  split at h
  ·omega
  ·rename_i hb
   split at h
   ·rename_i h2
    have:=ael_ (s:=l) (by simpa using h2)
    simp only[List.mem_cons,not_or]
    exact⟨fun e=>hb (by simp[e]),this⟩
   ·omega
theorem aiq_ {d:UInt8}:∀ {s:Str} {i:Nat},Lib.indexByte s d=i→d ∉ s.take i∧s=s.take i++d::s.drop (i+1)
 |[],i,h=>by simp[Lib.indexByte]at h
 |b::l,i,h=>by
  have hg:=ns_ l d
  unfold Lib.indexByte at h
  split at h
  ·rename_i hb
   obtain rfl:i=0:=by omega
   have:b=d:=by simpa using hb
   subst this;simp
  ·rename_i hb
   split at h
   ·omega
   ·rename_i h2
    have h2':Lib.indexByte l d≠ -1:=by simpa using h2
    obtain⟨j,hj⟩:∃j:Nat,Lib.indexByte l d=j:=⟨(Lib.indexByte l d).toNat,by omega⟩
    obtain rfl:i=j+1:=by omega
    obtain⟨q1,q2⟩:=aiq_ (s:=l) hj
    refine⟨?_,?_⟩
    ·simp only[List.take_succ_cons,List.mem_cons,not_or]
     exact⟨fun e=>hb (by simp[e]),q1⟩
    ·simp only[List.take_succ_cons,List.drop_succ_cons,List.cons_append]
     rw[←q2]
theorem x9_ (d:UInt8):∀(n:Nat) (s:Str),s.length≤n→Lib.splitK [d] 0 (Lib.count s [d]) s=cp_ d s
 |0,s,h=>by
  obtain rfl:s=[]:=List.eq_nil_of_length_eq_zero (by omega)
  rfl
 |n+1,s,h=>by
  have hg:=Lib.index_ge s [d]
  have ho:Lib.index s [d]=Lib.indexByte s d:=Lib.index_one s d
  by_cases hm:Lib.index s [d] = -1
  ·rw[Lib.count_miss hm,qd_ (ael_ (ho ▸ hm))];rfl
  ·obtain⟨i,hi⟩:∃i:Nat,Lib.index s [d]=i:=⟨(Lib.index s [d]).toNat,by omega⟩
   obtain⟨q1,q2⟩:=aiq_ (ho ▸ hi)
   rw[Lib.count_hit (by simp) hi,Nat.add_comm 1,Lib.splitK,if_neg (by simpa using hm),hi]
   simp only[Int.toNat_natCast,Nat.add_zero,T7_,List.length_nil,Nat.zero_add]
   have hl:(s.drop (i+1)).length≤n:=by
    have:=congrArg List.length q2
    rw[T2_,T7_]at this
    omega
   rw[x9_ d n (s.drop (i+1)) hl]
   conv=>rhs;rw[q2]
   rw[ux_ q1]
def j7_ (l:List Str):Nat:=(l.map fun w=>w.length+1).sum
theorem dz_ (w:Str) (l:List Str):j7_ (w::l)=w.length+1+j7_ l:=by simp[j7_]
theorem j5_ (d:UInt8):∀s:Str,j7_ (cp_ d s)=s.length+1
 |[]=>rfl
 |c::s=>by
  have ih:=j5_ d s
  rw[cp_]
  split
  ·rw[dz_,ih];simp;omega
  ·cases h:cp_ d s with
   |nil=>exact absurd h (au8_ d s)
   |cons w r=>
    rw[h,dz_]at ih
    dsimp only
    rw[dz_];simp;omega
theorem ae4_ (p:Str→Bool):∀l:List Str,j7_ (l.filter p)≤j7_ l
 |[]=>Nat.le_refl _
 |w::l=>by
  have:=ae4_ p l
  rw[List.filter_cons]
  split
  ·rw[dz_,dz_];omega
  ·rw[dz_];omega
theorem yq_:∀(l:List Str) (k:Nat),j7_ (l.drop k)≤j7_ l
 |l,0=>Nat.le_refl _
 |[],k+1=>by simp
 |w::l,k+1=>by rw[List.drop_succ_cons,dz_];have:=yq_ l k;omega
theorem gv_:∀l:List Str,l.length≤j7_ l
 |[]=>Nat.le_refl _
 |w::l=>by rw[dz_];have:=gv_ l;simp only[T7_];omega
theorem lq_:∀ {l:List Str} {w:Str},w∈l→w.length<j7_ l
 |[],_,h=>by cases h
 |a::l,w,h=>by
  rw[dz_]
  rcases List.mem_cons.1 h with rfl|h
  ·omega
  ·have:=lq_ h;omega
theorem ads_:∀l:List Str,(ax_ l).length≤j7_ l
 |[]=>Nat.le_refl _
 |[w]=>by rw[em_,dz_];omega
 |w::x::l=>by
  have:=ads_ (x::l)
  rw[d8_,dz_,T2_,T7_];omega
theorem x6_ (s:Str):j7_ (eu_ s)≤s.length+1:=Nat.le_trans (ae4_ _ _) (Nat.le_of_eq (j5_ 32 s))
theorem w6_ (w:List Str) (k:Nat):(w.getD k []).length≤j7_ w:=by
 rcases Nat.lt_or_ge k w.length with h|h
 ·exact Nat.le_of_lt (lq_ (am_ (d:=[]) h))
 ·rw[T8_,List.getElem?_eq_none h];simp
theorem rl_ (w:List Str) (k:Nat):(ax_ (w.drop k)).length≤j7_ w:=Nat.le_trans (ads_ _) (yq_ w k)
/-! numbers, a line each -/
def op_ (l:List Int) (k:Nat):Str:=js_ (l.take k)
theorem ad9_ {l:List Int} {k:Nat} (h:k<l.length):op_ l (k+1)=op_ l k++(Lib.itoa (l.getD k 0)++[10]):=by
 unfold op_ js_
 rw[List.take_add_one,T6_ h,T8_,T6_ h,List.map_append,List.flatten_append]
 simp
theorem ada_ {l:List Int} {k:Nat} (h:l.length≤k):op_ l k=js_ l:=by unfold op_;rw[T1_ h]
theorem aqw_:∀n:Nat,(Lib.decDigits n).length≤n+1:=fun n=>by
 induction n using Nat.strongRecOn with
 |ind n ih=>
  by_cases h:n<10
  ·rw[Lib.decDigits,dif_pos h];simp
  ·rw[cq_ h,T2_]
   have:=ih (n / 10) (by omega)
   simp only[T7_,List.length_nil];omega
def smI (n:Int):Prop:= -1000000≤n∧n≤1000000
theorem gt_ {n:Int} (h:smI n):(Lib.itoa n).length≤1000002:=by
 unfold smI at h
 unfold Lib.itoa
 split
 ·have:=aqw_ n.natAbs;simp only[T7_];omega
 ·have:=aqw_ n.toNat;omega
def smL (l:List Int):Prop:=∀n∈l,smI n
theorem gm_:∀ {l:List Int},smL l→(js_ l).length≤1000003 * l.length
 |[],_=>by simp[js_]
 |n::l,h=>by
  have h1:=gt_ (h n (by simp))
  have h2:=gm_ (l:=l) fun m hm=>h m (by simp[hm])
  unfold js_ at h2 ⊢
  simp only[List.map_cons,List.flatten_cons,T2_,T7_,List.length_nil]
  omega
theorem anc_ {l:List Int} (h:smL l) (k:Nat):smL (l.take k):=fun n hn=>h n (List.mem_of_mem_take hn)
theorem aik_ {l:List Int} (h:smL l) (k:Nat):(op_ l k).length≤1000003 * l.length:=by
 have:=gm_ (anc_ h k)
 have h2:(l.take k).length≤l.length:=by rw[List.length_take];omega
 have:=Nat.mul_le_mul_left 1000003 h2
 unfold op_;omega
theorem ku_ {l:List Int} (h:smL l) {k:Nat} (hk:k<l.length):smI (l.getD k 0):=h _ (am_ hk)
/-! what programs say is not too large -/
def av0_ (b:Bl):Prop:=b.kind=0∨eok b.expr=true∧(b.kind=3→eok b.thn=true)
theorem ava_ {r:Rs} {b:Bl} (hb:av0_ b) (h:smL r.said):smL (es_ r b).said:=by
 unfold es_
 split
 ·exact h
 split
 ·exact h
 rename_i k0
 split
 ·exact h
 split
 ·exact h
 split
 ·obtain⟨h1,h2⟩:=hb.resolve_left k0
  intro n hn
  dsimp only at hn
  rcases List.mem_append.1 hn with hn|hn
  ·exact h n hn
  ·simp only[List.mem_singleton]at hn
   subst hn
   unfold dc_
   split
   ·rename_i hk;exact arn_ (h2 hk.2) _ _
   ·exact arn_ h1 _ _
 ·exact h
theorem zn_:∀(l:List Bl) (r:Rs),(∀b∈l,av0_ b)→smL r.said→smL (l.foldl es_ r).said
 |[],_,_,h=>h
 |b::l,r,hb,h=>by rw[List.foldl_cons];exact zn_ l _ (fun x hx=>hb x (by simp[hx])) (ava_ (hb b (by simp)) h)
theorem aad_ (l:List Sl):smL (hf_ l).1:=by
 unfold hf_
 split
 ·rename_i h
  refine zn_ _ _ (fun b hb=>?_) (fun n hn=>by cases hn)
  obtain⟨s,hs,rfl⟩:=List.mem_map.1 hb
  have hk:=List.all_eq_true.1 (atp_ h) s hs
  by_cases k0:s.kind=0
  ·exact .inl k0
  ·exact .inr ⟨o5_ hk k0,fun k=>tp_ hk k⟩
 ·intro n hn;cases hn
theorem asn_ (l:List Bl):smL (j3_ l).1:=by
 unfold j3_
 split
 ·rename_i h
  refine zn_ _ _ (fun b hb=>?_) (fun n hn=>by cases hn)
  simp only[lok,T5_]at h
  have hk:=List.all_eq_true.1 h.2 b hb
  by_cases k0:b.kind=0
  ·exact .inl k0
  ·exact .inr ⟨ut_ hk k0,fun k=>aal_ hk k⟩
 ·intro n hn;cases hn
theorem zw_ (s:Str):smL (i7_ s).1:=by
 unfold i7_
 split
 ·exact asn_ _
 ·intro n hn;cases hn
theorem ai0_ {l:List Pg}:∀k,k≤16→smL (ga_ l k)
 |0,_=>fun n hn=>by cases hn
 |k+1,h=>fun n hn=>by
  rw[ga_]at hn
  rcases List.mem_append.1 hn with hn|hn
  ·exact ai0_ k (by omega) n hn
  ·split at hn
   ·cases hn
   ·simp only[List.mem_singleton]at hn;subst hn;unfold smI;omega
theorem lx_ (l:List Pg):smL (ks_ l):=by
 unfold ks_
 split
 ·rename_i h;exact ai0_ _ (cc_ h).2.1
 ·intro n hn;cases hn
theorem u7_ (l:List Sl):smI (gy_ l):=by
 unfold gy_ smI
 split
 ·rename_i h
  have:=(a3_ h).2.1
  split
  ·rename_i k hk
   have:=List.mem_range.1 (List.mem_of_find?_eq_some hk)
   omega
  ·omega
 ·omega
theorem q9_ (l:List Sl):(hf_ l).1.length≤16:=by
 unfold hf_
 split
 ·rename_i h
  have h2:=(a3_ h).2.1
  have:=(ow_ (l.map ofS) (l.map ofS).length (Nat.le_refl _)).2.2
  rw[List.take_length,List.length_map]at this
  dsimp only;omega
 ·simp
theorem q6_ (s:Str):(i7_ s).1.length≤16:=by
 unfold i7_ j3_
 split
 ·split
  ·rename_i h
   simp only[lok,T5_,T3_]at h
   have:=(ow_ ((bt_ s).map fun w=>(e2_ w).getD B0) _ (Nat.le_refl _)).2.2
   rw[List.take_length]at this
   dsimp only;omega
  ·simp
 ·simp
end
section
set_option maxRecDepth 100000
set_option maxHeartbeats 4000000
def CutD (d:UInt8) (s:Str) (i:Nat) (p:Nat × List Str):Prop:=
 p.1≤i∧p.2.length≤i∧(i≤s.length→p.2++cp_ d (s.drop p.1)=cp_ d s∧d ∉ (s.drop p.1).take (i - p.1))∧(s.length<i→p.2=cp_ d s)
theorem all_ (d:UInt8) (s:Str):CutD d s 0 (0,[]):=⟨Nat.le_refl _,Nat.le_refl _,fun _=>⟨rfl,by simp⟩,fun h=>absurd h (by omega)⟩
theorem ar6_ {d:UInt8} {s:Str} {i:Nat} {p:Nat × List Str} (h:CutD d s i p) (hi:i≤s.length) (hc:i=s.length∨s.getD i 0=d):CutD d s (i+1) (i+1,p.2++[(s.drop p.1).take (i - p.1)]):=by
 obtain⟨h1,h2,h3, -⟩:=h
 obtain⟨h3,h4⟩:=h3 hi
 refine⟨Nat.le_refl _,by simp;omega,fun hl=>?_,fun hl=>?_⟩
 ·have h10:s.getD i 0=d:=by
   rcases hc with hc|hc
   ·omega
   ·exact hc
  refine⟨?_,by simp⟩
  rw[anw_ h1 (by omega),h10,ux_ h4]at h3
  dsimp only
  rw[List.append_assoc];exact h3
 ·have hil:i=s.length:=by omega
  have e:(s.drop p.1).take (i - p.1)=s.drop p.1:=T1_ (by rw[List.length_drop];omega)
  rw[e]at h4 ⊢
  rw[qd_ h4]at h3
  exact h3
theorem arf_ {d:UInt8} {s:Str} {i:Nat} {p:Nat × List Str} (h:CutD d s i p) (hi:i<s.length) (hc:s.getD i 0≠d):CutD d s (i+1) p:=by
 obtain⟨h1,h2,h3, -⟩:=h
 obtain⟨h3,h4⟩:=h3 (by omega)
 refine⟨by omega,by omega,fun _=>⟨h3,?_⟩,fun hl=>by omega⟩
 rw[show i+1 - p.1=(i - p.1)+1 by omega,List.take_add_one,List.getElem?_drop,show p.1+(i - p.1)=i by omega,T6_ hi]
 rw[T8_,T6_ hi]at hc
 simp only[Option.toList_some,List.mem_append,List.mem_singleton,not_or]
 exact⟨h4,fun e=>hc e.symm⟩
theorem pp_ {c d:UInt8}:((c.toNat:Int)=d.toNat)↔c=d:=⟨fun h=>by apply UInt8.toNat_inj.1;omega,fun h=>by rw[h]⟩
attribute [local go_sem] al_ aq_ in
theorem yo_ (d:UInt8) (s:Str) (hs:s.length≤1000000):ACall En 9 [.s s,.i .u8 d.toNat] [] [.sl false (an_ (cp_ d s))] []:=by
 refine aa_ [] Tryz.func9 Tryz.ntmps9 fun C=>?_
 refine .seq (.rg [] ?_)
 refine .seq (.rg [] ?_)
 refine .seq (.rg [] ?_)
 refine .seq (.seq (.rg [] ?_))
 refine .block (.loopK (fun q:Nat × Nat × List Str=>⟨[.s s,.i .u8 d.toNat,.no,.no,.no,.ow 18 1 0 q.2.2.length,.i .i64 q.2.1,.i .i64 q.1,.no,.no,.no,.no,.no,.no,.no,.no,.no,.no,.no,.no,.no,.no,.no,.no,.no,.no,.no,.no,.no,.no,.no,.no,.no,.no,.no,.no],ak_ [(18,⟨9,1,an_ q.2.2⟩)],us [18]⟩) (fun q:Nat × Nat × List Str=>q.1≤s.length+1∧CutD d s q.1 q.2) (fun q:Nat × Nat × List Str=>s.length+1 - q.1) ((0,0,[])) ?_ ?_ (fun q hI=>?_))
 ·exact⟨by simp,all_ d s⟩
 ·refine Can.trans (Can.ownSlot 5 18 9 1 (by simp only[go_sem,seval]<;>rfl) (by simp only[go_sem,seval]) (by simp only[go_sem,seval]<;>rfl)) ?_
  refine Can.wk ?_ ?_
  ·first|trivial|((try simp))
  ·first|trivial|((try simp[an_]))
 refine .seq (.seq (.rg [] ?_))
 refine .cB (fun h12=>?_) (fun h12=>?_)
 ·refine .skip (.seqJ (fun p:Nat × List Str=>⟨[.s s,.i .u8 d.toNat,.no,.no,.no,.ow 18 1 0 p.2.length,.i .i64 p.1,.i .i64 q.1,.no,.no,.no,.no,.no,.no,.no,.no,.no,.no,.no,.no,.no,.no,.no,.no,.no,.no,.no,.no,.no,.no,.no,.no,.no,.no,.no,.no],ak_ [(18,⟨9,1,an_ p.2⟩)],us [18]⟩) (fun p:Nat × List Str=>CutD d s (q.1+1) p) ?_ (fun p hJ=>?_))
  ·refine .block (.seq (.rgo [] ?_ ?_))
   ·simp only[T3_]at h12;exact⟨fun h=>⟨h,by omega,by simp only[Bool.not_eq_true',beq_eq_false_iff_ne]at h;omega⟩,fun h=>by rw[h];rfl⟩
   refine .cB (fun h25=>?_) (fun h25=>?_)
   ·refine .seq (.rgo [] ?_ ?_)
    ·simp only[T3_]at h12;have h1:=hI.2.1;have h2:=hI.2.2.1;refine⟨⟨by omega,by omega,by omega,by omega,by simp⟩,by simp,by simp,by omega⟩
    refine .rg [] ?_
    refine Exists.intro ((q.1+1,q.2.2++[(s.drop q.2.1).take (q.1 - q.2.1)])) ⟨?_,?_⟩
    ·simp only[T3_]at h12;first|(refine ar6_ hI.2 (by omega) ?_;simp only[Bool.or_eq_true,beq_iff_eq]at h25;rcases h25 with h|h;exact .inl (by omega);exact .inr (pp_.1 h))|(simp only[Bool.or_eq_false_iff,beq_eq_false_iff_ne]at h25;exact arf_ hI.2 (by omega) (fun e=>h25.2 (pp_.2 e)))
    refine Can.trans (Can.sX 42 18) ?_
    refine Can.wk ?_ ?_
    ·first|trivial|(first|rfl|(refine⟨by simp,?_⟩;simp only[T3_]at h12;exact id_ (q.1+1) (by omega)))
    ·first|trivial|(first|rfl|(rw[List.drop_take,b6_];rfl))
   ·refine .skip ?_
    refine Exists.intro ((q.2.1,q.2.2)) ⟨?_,?_⟩
    ·simp only[T3_]at h12;first|(refine ar6_ hI.2 (by omega) ?_;simp only[Bool.or_eq_true,beq_iff_eq]at h25;rcases h25 with h|h;exact .inl (by omega);exact .inr (pp_.1 h))|(simp only[Bool.or_eq_false_iff,beq_eq_false_iff_ne]at h25;exact arf_ hI.2 (by omega) (fun e=>h25.2 (pp_.2 e)))
    refine Can.wk ?_ ?_
    ·first|trivial|(first|rfl|(refine⟨by simp,?_⟩;simp only[T3_]at h12;exact id_ (q.1+1) (by omega)))
    ·first|trivial|(first|rfl|(rw[List.drop_take,b6_];rfl))
  refine .rg [] ?_
  refine Exists.intro ((q.1+1,p.1,p.2)) ⟨?_,?_,?_⟩
  ·simp only[T3_]at h12;exact⟨by dsimp only;omega,hJ⟩
  ·simp at h12;dsimp only;omega
  refine Can.wk ?_ ?_
  ·first|trivial|(rw[aj_ (by simp at h12;omega) (by simp at h12;omega)];(try simp))
  ·first|trivial|((try simp))
 ·refine .exit (.seq (.rg [] ?_))
  refine .fX 18 ?_
  refine .ret ⟨.inr rfl,?_⟩
  exact Out.plL (by simp only[Tryz.results9];rfl) (by simp only[ag_,go_sem,seval]<;>(simp only[T4_]at h12;have e:=hI.2.2.2.2 (by omega);rw[←e];simp[peel,leV,af_,al_,T1_]))
theorem gr_ {l:List Str} {k:Nat} (h:k<l.length):(l.take (k+1)).filter (fun w=>!(w==[]))=(l.take k).filter (fun w=>!(w==[]))++(if l.getD k []=[]then []else [l.getD k []]):=by
 rw[List.take_add_one,T6_ h,List.filter_append,T8_,T6_ h]
 by_cases e:l[k]=[]<;>simp[e]
attribute [local go_sem] al_ aq_ in
theorem af4_ (s:Str) (hs:s.length≤100000):ACall En 10 [.s s] [] [.sl false (an_ (eu_ s))] []:=by
 have hl:=Nat.le_trans (gv_ (cp_ 32 s)) (Nat.le_of_eq (j5_ 32 s))
 have hF:∀k,((cp_ 32 s).take k |>.filter (fun w=>!(w==[]))).length≤k:=fun k=>Nat.le_trans (List.length_filter_le _ _) (by rw[List.length_take];omega)
 have hw:eu_ s=(cp_ 32 s).filter fun w=>!(w==[]):=rfl
 have C0:=yo_ 32 s (by omega)
 generalize cp_ 32 s=l at *
 refine aa_ [] Tryz.func10 Tryz.ntmps10 fun C=>?_
 refine .seq (.rg [] ?_)
 refine .seq (.rg [ab_ C0] ?_)
 refine .seq (.rg [] ?_)
 refine .seq (.seq (.rg [] ?_))
 refine .block (.loopK (fun k:Nat=>⟨[.no,.no,.no,.sl false (an_ l),.ow 18 1 0 ((l.take k).filter fun w=>!(w==[])).length,.i .i64 k,.no,.no,.no,.no,.no,.no,.no,.no,.no,.no,.no,.no,.no,.no,.no,.no,.no,.no,.no,.no,.no,.no],ak_ [(18,⟨9,1,an_ ((l.take k).filter fun w=>!(w==[]))⟩)],us [18]⟩) (fun k:Nat=>k≤l.length) (fun k:Nat=>l.length - k) (0) ?_ ?_ (fun k hI=>?_))
 ·exact Nat.zero_le _
 ·refine Can.trans (Can.ownSlot 4 18 9 1 (by simp only[go_sem,seval]<;>rfl) (by simp only[go_sem,seval]) (by simp only[go_sem,seval]<;>rfl)) ?_
  refine Can.wk ?_ ?_
  ·first|trivial|((try simp))
  ·first|trivial|((try simp[an_]))
 refine .seq (.seq (.rg [] ?_))
 refine .cB (fun h12=>?_) (fun h12=>?_)
 ·refine .skip (.seqJ (fun u:Unit=>⟨[.no,.no,.no,.sl false (an_ l),.ow 18 1 0 ((l.take (k+1)).filter fun w=>!(w==[])).length,.i .i64 k,.no,.no,.no,.no,.no,.no,.no,.no,.no,.no,.no,.no,.no,.no,.no,.no,.no,.no,.no,.no,.no,.no],ak_ [(18,⟨9,1,an_ ((l.take (k+1)).filter fun w=>!(w==[]))⟩)],us [18]⟩) (fun u:Unit=>True) ?_ (fun u hJ=>?_))
  ·refine .block (.seq (.rgo [] ?_ ?_ (h:=by simp only[go_sem,seval,aw_ (show k<l.length by simpa using h12)];rfl)))
   ·simp at h12;omega
   refine .cB (fun h19=>?_) (fun h19=>?_)
   ·refine .rgo [] ?_ ?_ (h:=by simp only[go_sem,seval,aw_ (show k<l.length by simpa using h12)];rfl)
    ·simp at h12;have:=hF k;exact⟨by omega,fun r hr=>by simp at hr;subst hr;rfl,by simp,by omega⟩
    refine Exists.intro (()) ⟨?_,?_⟩
    ·trivial
    refine Can.trans (Can.sX 36 18) ?_
    refine Can.wk ?_ ?_
    ·first|trivial|(first|(rw[gr_ (by simpa using h12),if_neg (by simpa using h19)];simp;done)|(rw[gr_ (by simpa using h12),if_pos (by simpa using h19)];simp;done))
    ·first|trivial|(first|(rw[gr_ (by simpa using h12),if_neg (by simpa using h19),b6_];rfl)|(rw[gr_ (by simpa using h12),if_pos (by simpa using h19),List.append_nil];done))
   ·refine .skip ?_
    refine Exists.intro (()) ⟨?_,?_⟩
    ·trivial
    refine Can.wk ?_ ?_
    ·first|trivial|(first|(rw[gr_ (by simpa using h12),if_neg (by simpa using h19)];simp;done)|(rw[gr_ (by simpa using h12),if_pos (by simpa using h19)];simp;done))
    ·first|trivial|(first|(rw[gr_ (by simpa using h12),if_neg (by simpa using h19),b6_];rfl)|(rw[gr_ (by simpa using h12),if_pos (by simpa using h19),List.append_nil];done))
  refine .rg [] ?_
  refine Exists.intro (k+1) ⟨?_,?_,?_⟩
  ·simp at h12;omega
  ·simp at h12;omega
  refine Can.wk ?_ ?_
  ·first|trivial|(rw[aj_ (by simp at h12;omega) (by simp at h12;omega)];(try simp))
  ·first|trivial|((try simp))
 ·refine .exit (.seq (.rg [] ?_))
  refine .fX 18 ?_
  refine .ret ⟨.inr rfl,?_⟩
  exact Out.plL (by simp only[Tryz.results10];rfl) (by simp only[ag_,go_sem,seval]<;>(simp only[T4_]at h12;rw[T1_ (by rw[al_];exact Nat.le_refl _),T1_ (by omega),hw];exact af_ _))
end
section
open Go.RowKit
set_option maxRecDepth 100000
set_option maxHeartbeats 8000000
attribute [local go_sem] at_ bm_ je_ mw_ as_ ao_ in
theorem hq_ (l:List Int) (hs:smL l) (hl:l.length≤100):ACall En 86 [.sl false (inR l)] [] [.s (js_ l)] []:=by
 obtain⟨iB,i1,i2,i3⟩:=bldI
 have hP:=fun k=>aik_ hs k
 refine aa_ [] Tryz.func86 Tryz.ntmps86 fun C=>?_
 refine .seq (.rgo [] ?_ ?_)
 ·(first|trivial|(simp;done)|(simp only[T3_]at h9;and_intros<;>omega))
 refine .seq (.rgSo [3] [xp_ En 39 13] ?_ ?_)
 ·exact⟨_,i1,i3⟩
 refine .seq (.seq (.rgo [] ?_ ?_))
 ·(first|trivial|(simp;done)|(simp only[T3_]at h9;and_intros<;>omega))
 refine .block (.loopK (fun k:Nat=>⟨[.no,.no,.no,.pt 13 2 0 0,.no,.no,.sl false (inR l),.i .i64 l.length,.i .i64 k,.no,.no,.no,.no,.no,.no,.no,.no,.no],ak_ [(13,⟨39,2,[[bA 13 k,bB 20 (op_ l k).length]]⟩),(20,⟨5,1,byR (op_ l k)⟩)],us [13,20]⟩) (fun k:Nat=>k≤l.length) (fun k:Nat=>l.length - k) (0) ?_ ?_ (fun k hI=>?_))
 ·exact Nat.zero_le _
 ·refine Can.trans (Can.newName 20 5 1 (by simp only[go_sem,seval]<;>rfl) (by simp only[go_sem,seval]<;>rfl)) ?_
  refine Can.wk ?_ ?_
  ·first|trivial|((try simp))
  ·first|trivial|(exact⟨rfl,rfl⟩)
 refine .seq (.rgo [] ?_ ?_)
 ·(first|trivial|(simp;done)|(simp only[T3_]at h9;and_intros<;>omega))
 refine .seq (.cB (fun h9=>?_) (fun h9=>?_))
 ·refine .skip (.seq (.block (.seq (.rgo [] ?_ ?_ (h:=by simp only[go_sem,seval,c8_ (show k<l.length by simpa using h9)];rfl)))))
  ·(first|trivial|(simp;done)|(simp only[T3_]at h9;and_intros<;>omega))
  refine .rgo [a4_ (k<l.length) (fun h=>q2_ (l.getD k 0) (by have:=ku_ hs h;unfold smI at this;omega) (by have:=ku_ hs h;unfold smI at this;omega)),jb_ [13,20] [13,40] (dv_ k (op_ l k).length (op_ l k) (Lib.itoa (l.getD k 0)++[10]) rfl (by have:=hP k;have:=gt_ (ku_ hs (show k<l.length by simpa using h9));simp only[T2_,T7_,List.length_nil];omega))] ?_ ?_
  ·have hk:k<l.length:=(by simpa using h9);have:=gt_ (ku_ hs hk);exact⟨⟨hk,by omega⟩,by decide,by decide⟩
  refine .rgo [] ?_ ?_
  ·(first|trivial|(simp;done)|(simp only[T3_]at h9;and_intros<;>omega))
  refine Exists.intro (k+1) ⟨?_,?_,?_⟩
  ·simp only[T3_]at h9;omega
  ·simp at h9;omega
  refine Can.trans (Can.sX 40 20) ?_
  refine Can.wk ?_ ?_
  ·first|trivial|(simp only[T3_]at h9;rw[aj_ (by omega) (by omega)];(try simp))
  ·first|trivial|(simp only[T3_]at h9;rw[ad9_ (by omega)];simp[bA,byR])
 ·refine .exit (.seq (.rgo [jb_ [13,20] [13] (l9_ k (op_ l k).length (op_ l k) rfl (by have:=hP k;omega))] ?_ ?_))
  ·(first|trivial|(simp;done)|(simp only[T3_]at h9;and_intros<;>omega))
  refine .ret ⟨.inr rfl,?_⟩
  exact Out.plL (by simp only[Tryz.results86];rfl) (by simp only[ag_,go_sem,seval]<;>(simp only[T4_]at h9;rw[ada_ (by omega)]))
theorem zb_ (a b:Int) (ha:smI a) (hb:smI b):ACall En 97 [.ag [.i .i64 a,.i .i64 b]] [] [.s (wz_ a b)] []:=by
 have h1:=gt_ ha
 have h2:=gt_ hb
 unfold smI at ha hb
 refine aa_ [] Tryz.func97 Tryz.ntmps97 fun C=>?_
 refine .seq (.rgo [] ?_ ?_)
 ·(first|trivial|(simp;done)|omega|(simp;omega))
 refine .seq (.rgDo [ab_ (q2_ a (by omega) (by omega)),ab_ (q2_ b (by omega) (by omega))] ?_ ?_)
 ·(first|trivial|(simp;done)|omega|(simp;omega))
 refine .ret ⟨.inr rfl,?_⟩
 exact Out.pl (by simp only[Tryz.results97];rfl) (by simp only[ag_,go_sem,seval]<;>(simp[wz_]))
attribute [local go_sem] ao_ in
theorem awa_ (l:List Int) (ok:Bool) (hs:smL l) (hl:l.length≤100):ACall En 88 [.sl false (inR l),.b ok] [] [.s (st_ (l,ok))] []:=by
 have h2:=gm_ hs
 refine aa_ [] Tryz.func88 Tryz.ntmps88 fun C=>?_
 refine .seq (.rgo [] ?_ ?_)
 ·(first|trivial|(simp;done)|omega|(simp;omega))
 refine .seq (.seq (.rgo [] ?_ ?_))
 ·(first|trivial|(simp;done)|omega|(simp;omega))
 refine .cB (fun h5=>?_) (fun h5=>?_)
 ·refine .seq (.rgo [ab_ (hq_ l hs hl)] ?_ ?_)
  ·(first|trivial|(simp;done)|omega|(simp;omega))
  refine .ret ⟨.inr rfl,?_⟩
  exact Out.pl (by simp only[Tryz.results88];rfl) (by simp only[ag_,go_sem,seval]<;>(simp[st_,h5]))
 ·refine .skip (.seq (.rgo [ab_ (hq_ l hs hl)] ?_ ?_))
  ·(first|trivial|(simp;done)|omega|(simp;omega))
  refine .ret ⟨.inr rfl,?_⟩
  exact Out.pl (by simp only[Tryz.results88];rfl) (by simp only[ag_,go_sem,seval]<;>(simp[st_,h5]))
attribute [local go_sem] as_ ao_ in
theorem rm_ (l:List Int) (hs:smL l) (hl:l.length≤100):ACall En 65 [.sl false (inR l)] [] [.s (js_ l)] []:=by
 have hP:=fun k=>aik_ hs k
 refine aa_ [] Tryz.func65 Tryz.ntmps65 fun C=>?_
 refine .seq (.rgo [] ?_ ?_)
 ·(first|trivial|(simp;done)|(simp only[T3_]at h8;and_intros<;>omega))
 refine .seq (.rgo [] ?_ ?_)
 ·(first|trivial|(simp;done)|(simp only[T3_]at h8;and_intros<;>omega))
 refine .seq (.seq (.rgo [] ?_ ?_))
 ·(first|trivial|(simp;done)|(simp only[T3_]at h8;and_intros<;>omega))
 refine .block (.loopK (fun k:Nat=>⟨[.sl false (inR l),.no,.no,.s (op_ l k),.i .i64 k,.no,.no,.no,.no,.no,.no,.no,.no,.no,.no,.no,.no,.no,.no,.no],ak_ [],us []⟩) (fun k:Nat=>k≤l.length) (fun k:Nat=>l.length - k) (0) ?_ ?_ (fun k hI=>?_))
 ·exact Nat.zero_le _
 ·refine Can.wh ?_;first|trivial|(rfl)
 refine .seq (.seq (.rgo [] ?_ ?_))
 ·(first|trivial|(simp;done)|(simp only[T3_]at h8;and_intros<;>omega))
 refine .cB (fun h8=>?_) (fun h8=>?_)
 ·refine .skip (.seq (.block (.rgo [a4_ (k<l.length) (fun h=>kp_ (l.getD k 0) (by have:=ku_ hs h;unfold smI at this;omega) (by have:=ku_ hs h;unfold smI at this;omega))] ?_ ?_ (h:=by simp only[go_sem,seval,c8_ (show k<l.length by simpa using h8)];rfl))))
  ·have hk:k<l.length:=(by simpa using h8);have:=gt_ (ku_ hs hk);have:=hP k;simp only[T2_];omega
  refine .rgo [] ?_ ?_
  ·(first|trivial|(simp;done)|(simp only[T3_]at h8;and_intros<;>omega))
  refine Exists.intro (k+1) ⟨?_,?_,?_⟩
  ·simp only[T3_]at h8;omega
  ·simp at h8;omega
  refine Can.wh ?_;first|trivial|(simp only[T3_]at h8;rw[aj_ (by omega) (by omega),ad9_ (by omega)];(try simp))
 ·refine .exit (.seq (.rgo [] ?_ ?_))
  ·(first|trivial|(simp;done)|(simp only[T3_]at h8;and_intros<;>omega))
  refine .ret ⟨.inr rfl,?_⟩
  exact Out.pl (by simp only[Tryz.results65];rfl) (by simp only[ag_,go_sem,seval]<;>(simp only[T4_]at h8;rw[ada_ (by omega)]))
theorem ab2_ (a b:Int) (ha:smI a) (hb:smI b):ACall En 116 [.ag [.i .i64 a,.i .i64 b]] [] [.s (wz_ a b++[10])] []:=by
 have h1:=gt_ ha
 have h2:=gt_ hb
 unfold smI at ha hb
 refine aa_ [] Tryz.func116 Tryz.ntmps116 fun C=>?_
 refine .seq (.rgo [] ?_ ?_)
 ·(first|trivial|(simp;done)|omega|(simp;omega))
 refine .seq (.rgDo [ab_ (kp_ a (by omega) (by omega)),ab_ (kp_ b (by omega) (by omega))] ?_ ?_)
 ·(first|trivial|(simp;done)|omega|(simp;omega))
 refine .ret ⟨.inr rfl,?_⟩
 exact Out.pl (by simp only[Tryz.results116];rfl) (by simp only[ag_,go_sem,seval]<;>(simp[wz_]))
attribute [local go_sem] ao_ in
theorem aby_ (l:List Int) (ok:Bool) (hs:smL l) (hl:l.length≤100):ACall En 67 [.sl false (inR l),.b ok] [] [.s (st_ (l,ok))] []:=by
 have h2:=gm_ hs
 refine aa_ [] Tryz.func67 Tryz.ntmps67 fun C=>?_
 refine .seq (.rgo [] ?_ ?_)
 ·(first|trivial|(simp;done)|omega|(simp;omega))
 refine .seq (.seq (.rgo [] ?_ ?_))
 ·(first|trivial|(simp;done)|omega|(simp;omega))
 refine .cB (fun h5=>?_) (fun h5=>?_)
 ·refine .seq (.rgo [ab_ (rm_ l hs hl)] ?_ ?_)
  ·(first|trivial|(simp;done)|omega|(simp;omega))
  refine .ret ⟨.inr rfl,?_⟩
  exact Out.pl (by simp only[Tryz.results67];rfl) (by simp only[ag_,go_sem,seval]<;>(simp[st_,h5]))
 ·refine .skip (.seq (.rgo [ab_ (rm_ l hs hl)] ?_ ?_))
  ·(first|trivial|(simp;done)|omega|(simp;omega))
  refine .ret ⟨.inr rfl,?_⟩
  exact Out.pl (by simp only[Tryz.results67];rfl) (by simp only[ag_,go_sem,seval]<;>(simp[st_,h5]))
end
section
set_option maxRecDepth 100000
set_option maxHeartbeats 4000000
attribute [local go_sem] as_ ao_ in
theorem aq2_ (a b:List Int) (ha:a.length≤1000000000) (hb:b.length≤1000000000):ACall En 266 [.sl false (inR a),.sl false (inR b)] [] [.b (a==b)] []:=by
 refine aa_ [] Tryz.func266 Tryz.ntmps266 fun C=>?_
 refine .seq (.rg [] ?_)
 refine .seq (.seq (.rg [] ?_))
 refine .cB (fun h10=>?_) (fun h10=>?_)
 ·refine .seq (.rg [] ?_)
  refine .ret ⟨.inr rfl,?_⟩
  exact Out.pl (by simp only[Tryz.results266];rfl) (by simp only[ag_,go_sem,seval]<;>(have:a≠b:=(fun e=>by simp[e]at h10);simp[this]))
 ·refine .skip (.seq (.seq (.rg [] ?_)))
  refine .block (.loopK (fun k:Nat=>⟨[.sl false (inR a),.sl false (inR b),.no,.no,.no,.no,.no,.no,.no,.no,.no,.no,.i .i64 a.length,.i .i64 k,.no,.no,.no,.no,.no,.no,.no,.no,.no,.no,.no,.no],ak_ [],us []⟩) (fun k:Nat=>k≤a.length∧a.take k=b.take k) (fun k:Nat=>a.length - k) (0) ?_ ?_ (fun k hI=>?_))
  ·exact⟨Nat.zero_le _,rfl⟩
  ·refine Can.wh ?_;first|trivial|(simp)
  refine .seq (.rg [] ?_)
  refine .seq (.cB (fun h14=>?_) (fun h14=>?_))
  ·refine .skip (.seq (.block (.seq (.rg [] ?_))))
   refine .seq (.rgDo [] ?_ ?_ (h:=by simp only[go_sem,seval,c8_ (show k<a.length by simpa using h14),c8_ (show k<b.length by simp at h14 h10;omega)];rfl))
   ·simp at h14 h10;simp;omega
   refine .cB (fun h24=>?_) (fun h24=>?_)
   ·refine .seq (.rg [] ?_)
    refine .ret ⟨.inr rfl,?_⟩
    exact Out.pl (by simp only[Tryz.results266];rfl) (by simp only[ag_,go_sem,seval]<;>(have h2:a.getD k 0≠b.getD k 0:=bne_iff_ne.1 h24;have:a≠b:=(fun e=>h2 (by rw[e]));simp[this]))
   ·refine .skip (.rg [] ?_)
    refine Exists.intro (k+1) ⟨?_,?_,?_⟩
    ·simp only[T3_]at h14;simp at h10;exact⟨by omega,ab9_ (d:=0) (by omega) (by omega) hI.2 (by simpa using h24)⟩
    ·simp at h14;omega
    refine Can.wh ?_;first|trivial|(rw[aj_ (by simp at h14;omega) (by simp at h14;omega)];simp)
  ·refine .exit (.seq (.rg [] ?_))
   refine .ret ⟨.inr rfl,?_⟩
   exact Out.pl (by simp only[Tryz.results266];rfl) (by simp only[ag_,go_sem,seval]<;>(simp only[T4_]at h14;simp at h10;have q:=hI.2;rw[T1_ (by omega),T1_ (by omega)]at q;simp[q]))
theorem acs_ {p q:Pg}:(p=q)↔(((p.line=q.line∧p.good=q.good)∧p.text=q.text)∧p.frm=q.frm):=by
 constructor
 ·rintro rfl;exact⟨⟨⟨rfl,rfl⟩,rfl⟩,rfl⟩
 ·intro h;obtain⟨a,b,c,d⟩:=p;obtain⟨a2,b2,c2,d2⟩:=q;simp_all
attribute [local go_sem] cn_ ao_ in
theorem axx_ (p q:Pg) (hp:pgB p) (hq:pgB q):ACall En 212 [.ag (pgC p),.ag (pgC q)] [] [.b (decide (p=q))] []:=by
 have h1:=hp.2.2
 have h2:=hq.2.2
 have T:=@acs_ p q
 refine aa_ [] Tryz.func212 Tryz.ntmps212 fun C=>?_
 refine .seq (.rg [] ?_)
 refine .seq (.rg [ab_ (aq2_ p.frm q.frm (by omega) (by omega))] ?_)
 refine .ret ⟨.inr rfl,?_⟩
 exact Out.pl (by simp only[Tryz.results212];rfl) (by simp only[ag_,go_sem,seval]<;>(have e:(p.line==q.line&&p.good==q.good&&p.text==q.text&&p.frm==q.frm)=decide (p=q):=(by rw[Bool.eq_iff_iff];simp only[T5_,beq_iff_eq,T3_];exact T.symm);rw[e]))
attribute [local go_sem] cn_ ao_ in
theorem ame_ (p:Pg) (hp:pgB p):ACall En 211 [.ag (pgC p)] [] [.b (!okP p)] []:=by
 have P:=rv_ p.line (by have:=hp.1;omega)
 have B:=zo_ hp.1
 refine aa_ [] Tryz.func211 Tryz.ntmps211 fun C=>?_
 refine .seq (.rg [] ?_)
 refine .seq (.rgD [ab_ (vr_ p.line (by have:=hp.1;omega)),ab_ P,ab_ (axx_ p (du_ p.line) hp B)] ?_)
 refine .ret ⟨.inr rfl,?_⟩
 exact Out.pl (by simp only[Tryz.results211];rfl) (by simp only[ag_,go_sem,seval]<;>(rw[okP,Bool.not_and]))
attribute [local go_sem] bl_ a6_ cn_ in
theorem as8_ (l:List Pg) (hs:∀p∈l,pgB p) (hl:l.length≤2000000):ACall En 265 [.sl false (pgR l),.fn (.func 211) [] []] [] [.i .i64 (nz_ (fun p=>!okP p) l)] []:=by
 refine aa_ [] Tryz.func265 Tryz.ntmps265 fun C=>?_
 refine .seq (.rg [] ?_)
 refine .seq (.seq (.rg [] ?_))
 refine .block (.loopK (fun k:Nat=>⟨[.sl false (pgR l),.fn (.func 211) [] [],.no,.no,.no,.no,.no,.i .i64 l.length,.i .i64 k,.no,.no,.no,.no,.no,.no,.no,.no,.no,.no],ak_ [],us []⟩) (fun k:Nat=>k≤l.length∧(l.take k).any (fun p=>!okP p)=false) (fun k:Nat=>l.length - k) (0) ?_ ?_ (fun k hI=>?_))
 ·simp
 ·refine Can.wh ?_;first|trivial|(simp)
 refine .seq (.rg [] ?_)
 refine .seq (.cB (fun h9=>?_) (fun h9=>?_))
 ·refine .skip (.seq (.block (.seq (.rg [] ?_))))
  refine .seq (.rgo [a4_ (k<l.length) (fun h=>ame_ (l.getD k Pg0) (hs _ (am_ h)))] ?_ ?_ (h:=by simp only[go_sem,seval,c9_ (show k<l.length by simpa using h9)];rfl))
  ·simp only[T3_]at h9;simp only[vn_,ao_,bv_,V.pure,Bool.and_true,true_and];and_intros<;>first|omega|(simp;done)|trivial
  refine .cB (fun h16=>?_) (fun h16=>?_)
  ·refine .seq (.rg [] ?_)
   refine .ret ⟨.inr rfl,?_⟩
   exact Out.pl (by simp only[Tryz.results265];rfl) (by simp only[ag_,go_sem,seval]<;>(simp at h9;rw[o6_ (d:=Pg0) h9 hI.2 h16]))
  ·refine .skip (.rg [] ?_)
   refine Exists.intro (k+1) ⟨?_,?_,?_⟩
   ·simp at h9;refine⟨by omega,?_⟩;rw[i0_ (d:=Pg0) h9,hI.2,h16];rfl
   ·simp at h9;omega
   refine Can.wh ?_;first|trivial|(rw[aj_ (by omega) (by omega)];simp)
 ·refine .exit (.seq (.rg [] ?_))
  refine .ret ⟨.inr rfl,?_⟩
  exact Out.pl (by simp only[Tryz.results265];rfl) (by simp only[ag_,go_sem,seval]<;>(simp at h9;have h0:=hI.2;rw[T1_ h9]at h0;rw[it_ h0]))
attribute [local go_sem] a6_ in
theorem aqg_ (l:List Pg) (hs:∀p∈l,pgB p) (hl:l.length≤2000000):ACall En 210 [.sl false (pgR l),.fn (.func 211) [] []] [] [.b (l.any fun p=>!okP p)] []:=by
 refine aa_ [] Tryz.func210 Tryz.ntmps210 fun C=>?_
 refine .seq (.rg [] ?_)
 refine .seq (.rg [ab_ (as8_ l hs hl)] ?_)
 refine .ret ⟨.inr rfl,?_⟩
 exact Out.pl (by simp only[Tryz.results210];rfl) (by simp only[ag_,go_sem,seval]<;>(rw[m6_]))
theorem aug_ (l:List Pg):bq_ l=((decide ((1:Int)≤l.length)&&decide ((l.length:Int)≤16))&&!l.any fun p=>!okP p):=by
 rw[List.any_eq_not_all_not];simp only[bq_,Bool.not_not,dq_];rfl
attribute [local go_sem] bl_ a6_ in
theorem m5_ (l:List Pg) (hs:∀p∈l,pgB p) (hl:l.length≤2000000):ACall En 143 [.sl false (pgR l)] [] [.b (bq_ l)] []:=by
 refine aa_ [] Tryz.func143 Tryz.ntmps143 fun C=>?_
 refine .seq (.rg [] ?_)
 refine .seq (.rg [ab_ (sz_ l.length 1 16),ab_ (aqg_ l hs hl)] ?_)
 refine .ret ⟨.inr rfl,?_⟩
 exact Out.pl (by simp only[Tryz.results143];rfl) (by simp only[ag_,go_sem,seval]<;>(rw[aug_]))
def zPg:List V:=[.s [],.b false,.s [],.sl true []]
theorem filP (l:List Pg) (k j:Nat):((en_ (pgR l) zPg k).getD j []).drop 4=[]:=by
 rw[T8_]
 cases h:(en_ (pgR l) zPg k)[j]? with
 |none=>rfl
 |some r=>
  have hm:=List.mem_of_getElem? h
  have:r.length=4:=by
   rcases p8_ hm with hm|rfl
   ·obtain⟨s,_,rfl⟩:=List.mem_map.1 hm;rfl
   ·rfl
  simp only[Option.getD_some];exact List.drop_of_length_le (by omega)
theorem avj_ {ls:List Str} {k:Nat} (h:k<ls.length):(pgR (ls.map du_)).getD k []=pgC (du_ (ls.getD k [])):=by
 rw[c9_ (by simpa using h)]
 simp[T8_,T6_ h]
attribute [local go_sem] al_ aq_ a6_ filP fr_ cn_ in
theorem amf_ (s:Str) (hs:s.length≤281474976710656):ACall En 12 [.s s] [] [.sl false (pgR (jk_ s))] []:=by
 have hL:=e1_ s
 have hM:=hb_ s
 have hb:jk_ s=if (bt_ s).length≤16 then(bt_ s).map du_ else []:=rfl
 have T:=k3_ s hs
 generalize bt_ s=ls at *
 have hp:∀k,bh_ (en_ (pgR (ls.map du_)) zPg k)=true:=fun k=>io_ (a6_ _) rfl
 have hll:(pgR (ls.map du_)).length=ls.length:=by simp[pgR]
 refine aa_ [] Tryz.func12 Tryz.ntmps12 fun C=>?_
 refine .seq (.rgo [] ?_ ?_ (h:=by simp only[go_sem,seval,hp,hll];rfl))
 ·(first|trivial|(simp;done)|(simp only[T3_,T4_]at h11 h18;and_intros<;>first|omega|exact ao_ _)|(simp only[T4_]at h11;and_intros<;>omega))
 refine .seq (.rgo [ab_ T] ?_ ?_ (h:=by simp only[go_sem,seval,hp,hll];rfl))
 ·(first|trivial|(simp;done)|(simp only[T3_,T4_]at h11 h18;and_intros<;>first|omega|exact ao_ _)|(simp only[T4_]at h11;and_intros<;>omega))
 refine .seq (.seq (.rgo [] ?_ ?_ (h:=by simp only[go_sem,seval,hp,hll];rfl)))
 ·(first|trivial|(simp;done)|(simp only[T3_,T4_]at h11 h18;and_intros<;>first|omega|exact ao_ _)|(simp only[T4_]at h11;and_intros<;>omega))
 refine .cB (fun h11=>?_) (fun h11=>?_) (hc:=by simp only[go_sem,seval,hp,hll];rfl) (hp:=by simp only[go_sem,seval,hp,hll])
 ·refine .seq (.rgo [] ?_ ?_ (h:=by simp only[go_sem,seval,hp,hll];rfl))
  ·(first|trivial|(simp;done)|(simp only[T3_,T4_]at h11 h18;and_intros<;>first|omega|exact ao_ _)|(simp only[T4_]at h11;and_intros<;>omega))
  refine .ret ⟨.inr rfl,?_⟩
  exact Out.plL (by simp only[Tryz.results12];rfl) (by simp only[ag_,go_sem,seval,hp,hll]<;>(simp only[T3_]at h11;rw[hb,if_neg (by omega)];simp[pgR,les,ler,leV])) (h1:=by simp only[a8_,b4_,go_sem,seval,hp,hll]<;>(split<;>rfl)) (h3:=by simp only[go_sem,seval,hp,hll])
 ·refine .skip (.seq (.rgo [] ?_ ?_ (h:=by simp only[go_sem,seval,hp,hll];rfl)))
  ·(first|trivial|(simp;done)|(simp only[T3_,T4_]at h11 h18;and_intros<;>first|omega|exact ao_ _)|(simp only[T4_]at h11;and_intros<;>omega))
  refine .seq (.seq (.rgo [] ?_ ?_ (h:=by simp only[go_sem,seval,hp,hll];rfl)))
  ·(first|trivial|(simp;done)|(simp only[T3_,T4_]at h11 h18;and_intros<;>first|omega|exact ao_ _)|(simp only[T4_]at h11;and_intros<;>omega))
  refine .block (.loopK (fun k:Nat=>⟨[.no,.no,.no,.no,.ow 24 4 0 ls.length,.no,.no,.no,.no,.no,.no,.no,.no,.no,.no,.sl false (an_ ls),.i .i64 ls.length,.i .i64 k,.no,.no,.no,.no,.no,.no,.no,.no,.no,.no,.no],ak_ [(24,⟨67,4,en_ (pgR (ls.map du_)) zPg k⟩)],us [24]⟩) (fun k:Nat=>k≤ls.length) (fun k:Nat=>ls.length - k) (0) ?_ ?_ (fun k hI=>?_))
  ·simp
  ·exact Can.wl (h:=by simp only[go_sem,seval,hp,hll,ae_,leV,ac_,ad_,V.inn,us,T9_,Ta_]<;>((try simp))) (hi:=by simp only[go_sem,seval,hp,hll,ae_,leV,ac_,ad_,V.inn,us,T9_,Ta_]) (hL:=by simp only[go_sem,seval,hp,hll,ae_,leV,ac_,ad_,V.inn,us,T9_,Ta_]<;>(simp[ip_,zPg,hll]))
  refine .seq (.rgo [] ?_ ?_ (h:=by simp only[go_sem,seval,hp,hll];rfl))
  ·(first|trivial|(simp;done)|(simp only[T3_,T4_]at h11 h18;and_intros<;>first|omega|exact ao_ _)|(simp only[T4_]at h11;and_intros<;>omega))
  refine .seq (.cB (fun h18=>?_) (fun h18=>?_) (hc:=by simp only[go_sem,seval,hp,hll];rfl) (hp:=by simp only[go_sem,seval,hp,hll]))
  ·refine .skip (.seq (.block (.seq (.rgo [] ?_ ?_ (h:=by simp only[go_sem,seval,hp,hll,aw_ (show k<ls.length by simpa using h18)];rfl)))))
   ·(first|trivial|(simp;done)|(simp only[T3_,T4_]at h11 h18;and_intros<;>first|omega|exact ao_ _)|(simp only[T4_]at h11;and_intros<;>omega))
   refine .rgo [a4_ (k<ls.length) (fun h=>rv_ (ls.getD k []) (by have:=hM _ (am_ (d:=[]) h);omega))] ?_ ?_ (h:=by simp only[go_sem,seval,hp,hll];rfl)
   ·(first|trivial|(simp;done)|(simp only[T3_,T4_]at h11 h18;and_intros<;>first|omega|exact ao_ _)|(simp only[T4_]at h11;and_intros<;>omega))
   refine .rgo [] ?_ ?_ (h:=by simp only[go_sem,seval,hp,hll];rfl)
   ·(first|trivial|(simp;done)|(simp only[T3_,T4_]at h11 h18;and_intros<;>first|omega|exact ao_ _)|(simp only[T4_]at h11;and_intros<;>omega))
   refine Exists.intro (k+1) ⟨?_,?_,?_⟩
   ·simp at h18;omega
   ·simp at h18;omega
   exact Can.wl (h:=by simp only[go_sem,seval,hp,hll,ae_,leV,ac_,ad_,V.inn,us,T9_,Ta_]<;>(rw[aj_ (by simp at h18;omega) (by simp at h18;omega)];(try simp))) (hi:=by simp only[go_sem,seval,hp,hll,ae_,leV,ac_,ad_,V.inn,us,T9_,Ta_]) (hL:=by simp only[go_sem,seval,hp,hll,ae_,leV,ac_,ad_,V.inn,us,T9_,Ta_]<;>(rw[←i3_ (by rw[hll];simpa using h18),avj_ (by simpa using h18),cn_]))
  ·refine .exit (.seq (.rgo [] ?_ ?_ (h:=by simp only[go_sem,seval,hp,hll];rfl)))
   ·(first|trivial|(simp;done)|(simp only[T3_,T4_]at h11 h18;and_intros<;>first|omega|exact ao_ _)|(simp only[T4_]at h11;and_intros<;>omega))
   refine .frz 24 (by simp only[go_sem,seval,hp,hll];rfl) (by simp only[go_sem,seval,hp,hll]) (by simp only[go_sem,seval,hp,hll];rfl) (by simp only[go_sem,seval,hp,hll];rfl) ?_
   refine .ret ⟨.inr rfl,?_⟩
   exact Out.plL (by simp only[Tryz.results12];rfl) (by simp only[ag_,go_sem,seval,hp,hll]<;>(simp only[T4_]at h11 h18;rw[hb,if_pos (by omega),kb_ (by rw[hll];omega),T1_ (by rw[hll];exact Nat.le_refl _)];simp[les,leV,af_])) (h1:=by simp only[a8_,b4_,go_sem,seval,hp,hll]<;>(split<;>rfl)) (h3:=by simp only[go_sem,seval,hp,hll])
end
end Go.Proofs.YthjccajoadjicaaGreatDoor
