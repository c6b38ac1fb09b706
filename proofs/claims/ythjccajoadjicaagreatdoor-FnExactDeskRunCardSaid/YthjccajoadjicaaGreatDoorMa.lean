/- Plain data: strings as lists of bytes, expressions as trees. Conditions: none. -/
import Derived.WalkKit
import Derived.Laws.AppendOwn
import Derived.Orders
import Derived.Laws.MakeOwn
import Derived.Laws.CopyRow
import Derived.Great.FillDense
import Derived.Lib.Strings
set_option linter.unusedVariables false
set_option linter.unusedSimpArgs false
namespace Go.Proofs.YthjccajoadjicaaGreatDoor
section
abbrev Str:=List UInt8
inductive E where
 |mk (kind n:Int) (s:Str) (kids:List E)
def E.kind:E→Int|.mk k _ _ _=>k
def E.n:E→Int|.mk _ n _ _=>n
def E.s:E→Str|.mk _ _ s _=>s
def E.kids:E→List E|.mk _ _ _ ks=>ks
theorem E.ind {P:E→Prop} (h:∀k n s kids,(∀e∈kids,P e)→P (.mk k n s kids)) (e:E):P e:=
 @E.rec P (fun l=>∀e∈l,P e) h (fun _ he=>by cases he) (fun x r hx hr e he=>by
  rcases List.mem_cons.1 he with rfl|he
  ·exact hx
  exact hr e he) e
end
section
open Go.RowKit
inductive V where
 |i (k:IntKind) (n:Int)
 |b (t:Bool)
 |s (l:Str)
 |sl (t:Bool) (rows:List (List V))
 |ow (l z o n:Nat)
 |pt (l z r c:Nat)
 |rp (cs:List V)
 |np
 |q (P:Value→Prop)
 |fn (f:Fn) (first captured:List V)
 |ag (cs:List V)
 |tu (vs:List V)
 |gd (c:Bool) (v:V)
 |no
instance:Inhabited V:=⟨.no⟩
def ptV (z g p:Nat):Value:=if z=0 then .map (some g)else .pointer (some ⟨g,p,none⟩)
theorem dq_ {z g p:Nat} (h:0<z):ptV z g p = .pointer (some ⟨g,p,none⟩):=by unfold ptV;rw[if_neg (by omega)]
theorem ag2_ {g p:Nat}:ptV 0 g p = .map (some g):=rfl
abbrev Phi:=Nat→Option (Option Nat)
def RdC (w:World) (S:Nat→Prop) (A:Option Addr) (xs:List Value):Prop:=
 xs≠[]→∃g o,A=some ⟨g,o,none⟩∧S g∧g<w.heap.size∧∀j u,xs[j]? = some u→w.cell? ⟨g,o+j,none⟩=some u
mutual
def VR (φ:Phi) (S:Nat→Prop) (w:World):V→Value→Prop
 |.i k n,x=>x = .int k n
 |.b t,x=>x = .bool t
 |.s l,x=>x = .string ⟨l.toArray⟩
 |.sl t rows,x=>∃A c z xs,x = .slice A rows.length c∧rows.length≤c∧c≤maxLen∧(t=true→c=rows.length)∧RdC w S A xs∧VRr φ S w z rows xs
 |.ow l z o n,x=>∃A c,x = .slice A n c∧n≤c∧c≤maxLen∧
   (c=0∨∃g T m,φ l=some (some g)∧A=some ⟨g,o * z,none⟩∧w.shape? g=some (T,m)∧(o+c) * z≤m)
 |.pt l z r c,x=>∃g,φ l=some (some g)∧x=ptV z g (r * z+c)
 |.rp cs,x=>∃g o xs,x = .pointer (some ⟨g,o,none⟩)∧S g∧g<w.heap.size∧(∀j u,xs[j]? = some u→w.cell? ⟨g,o+j,none⟩=some u)∧VRs φ S w cs xs
 |.np,x=>x = .pointer none
 |.q P,x=>P x∧x.oneCell'=true
 |.fn f a c,x=>∃a' c':Array Value,x = .func f a' c'∧VRs φ S w a a'.toList∧VRs φ S w c c'.toList
 |.ag cs,x=>∃xs:Array Value,x = .agg xs∧VRs φ S w cs xs.toList
 |.tu vs,x=>∃xs:Array Value,x = .tuple xs∧VRs φ S w vs xs.toList
 |.gd c v,x=>(c=true→VR φ S w v x)∧(c=false→x=undef)
 |.no,_=>True
def VRs (φ:Phi) (S:Nat→Prop) (w:World):List V→List Value→Prop
 |[],xs=>xs=[]
 |v::vs,xs=>∃x r,xs=x::r∧VR φ S w v x∧VRs φ S w vs r
def VRr (φ:Phi) (S:Nat→Prop) (w:World) (z:Nat):List (List V)→List Value→Prop
 |[],xs=>xs=[]
 |r::rs,xs=>∃ys zs,xs=ys++zs∧r.length=z∧VRs φ S w r ys∧(∀u∈ys,u.oneCell'=true)∧VRr φ S w z rs zs
end
structure KeepsW (φ φ':Phi) (S S':Nat→Prop) (w w':World):Prop where
 phi:∀l x,φ l=some x→φ' l=some x
 set:∀g,S g→g<w.heap.size→S' g∧w'.heap[g]? = w.heap[g]?
 size:w.heap.size≤w'.heap.size
 shape:∀g x,w.shape? g=some x→w'.shape? g=some x
section
variable {φ φ':Phi} {S S':Nat→Prop} {w w':World}
theorem ow_ {g j:Nat} (h:w'.heap[g]? = w.heap[g]?):w'.cell? ⟨g,j,none⟩=w.cell? ⟨g,j,none⟩:=
 World.cell?_of_block (w:=w) (a:=⟨g,j,none⟩) h
theorem RdC.keep (hk:KeepsW φ φ' S S' w w') {A:Option Addr} {xs:List Value} (h:RdC w S A xs):RdC w' S' A xs:=fun hne=>by
 obtain⟨g,o,h1,h2,h3,h4⟩:=h hne
 have:=hk.set g h2 h3
 exact⟨g,o,h1,this.1,Nat.lt_of_lt_of_le h3 hk.size,fun j u hu=>(ow_ this.2).trans (h4 j u hu)⟩
mutual
theorem VR.keep (hk:KeepsW φ φ' S S' w w'):∀ {v:V} {x:Value},VR φ S w v x→VR φ' S' w' v x
 |.i _ _,_,h|.b _,_,h|.np,_,h|.q _,_,h=>by simp only[VR]at h ⊢;exact h
 |.no,_,_=>by simp only[VR]
 |.gd c v,x,h=>by simp only[VR]at h ⊢;exact⟨fun hc=>VR.keep hk (h.1 hc),h.2⟩
 |.s _,_,h=>by simp only[VR]at h ⊢;exact h
 |.sl t rows,x,h=>by
  simp only[VR]at h ⊢
  obtain⟨A,c,z,xs,h1,h2,h3,h4,h5,h6⟩:=h
  exact⟨A,c,z,xs,h1,h2,h3,h4,h5.keep hk,VRr.keep hk h6⟩
 |.ow l z o n,x,h=>by
  simp only[VR]at h ⊢
  obtain⟨A,c,h1,h2,h3,h4⟩:=h
  refine⟨A,c,h1,h2,h3,?_⟩
  rcases h4 with h4|⟨g,T,m,h4,h5,h6,h7⟩
  ·exact .inl h4
  exact .inr ⟨g,T,m,hk.phi _ _ h4,h5,hk.shape _ _ h6,h7⟩
 |.pt l z r c,x,h=>by
  simp only[VR]at h ⊢
  obtain⟨g,h1,h2⟩:=h
  exact⟨g,hk.phi _ _ h1,h2⟩
 |.rp cs,x,h=>by
  simp only[VR]at h ⊢
  obtain⟨g,o,xs,h1,h2,h3,h4,h5⟩:=h
  have:=hk.set g h2 h3
  exact⟨g,o,xs,h1,this.1,Nat.lt_of_lt_of_le h3 hk.size,fun j u hu=>(ow_ this.2).trans (h4 j u hu),VRs.keep hk h5⟩
 |.fn f a c,x,h=>by
  simp only[VR]at h ⊢
  obtain⟨a',c',h1,h2,h3⟩:=h
  exact⟨a',c',h1,VRs.keep hk h2,VRs.keep hk h3⟩
 |.ag cs,x,h=>by
  simp only[VR]at h ⊢
  obtain⟨xs,h1,h2⟩:=h
  exact⟨xs,h1,VRs.keep hk h2⟩
 |.tu cs,x,h=>by
  simp only[VR]at h ⊢
  obtain⟨xs,h1,h2⟩:=h
  exact⟨xs,h1,VRs.keep hk h2⟩
theorem VRs.keep (hk:KeepsW φ φ' S S' w w'):∀ {vs:List V} {xs:List Value},VRs φ S w vs xs→VRs φ' S' w' vs xs
 |[],_,h=>by simp only[VRs]at h ⊢;exact h
 |v::vs,xs,h=>by
  simp only[VRs]at h ⊢
  obtain⟨x,r,h1,h2,h3⟩:=h
  exact⟨x,r,h1,VR.keep hk h2,VRs.keep hk h3⟩
theorem VRr.keep (hk:KeepsW φ φ' S S' w w') {z:Nat}:∀ {rs:List (List V)} {xs:List Value},VRr φ S w z rs xs→VRr φ' S' w' z rs xs
 |[],_,h=>by simp only[VRr]at h ⊢;exact h
 |r::rs,xs,h=>by
  simp only[VRr]at h ⊢
  obtain⟨ys,zs,h1,h2,h3,h0,h4⟩:=h
  exact⟨ys,zs,h1,h2,VRs.keep hk h3,h0,VRr.keep hk h4⟩
end
theorem VRs.len:∀ {vs:List V} {xs:List Value},VRs φ S w vs xs→xs.length=vs.length
 |[],_,h=>by simp only[VRs]at h;subst h;rfl
 |v::vs,xs,h=>by
  simp only[VRs]at h
  obtain⟨x,r,rfl,_,h3⟩:=h
  simp[h3.len]
theorem VRs.nil:VRs φ S w [] []:=by simp only[VRs]
theorem VRs.cons {v:V} {vs:List V} {x:Value} {xs:List Value} (h:VR φ S w v x) (k:VRs φ S w vs xs):VRs φ S w (v::vs) (x::xs):=by
 simp only[VRs];exact⟨x,xs,rfl,h,k⟩
theorem VRs.append:∀ {vs us:List V} {xs ys:List Value},VRs φ S w vs xs→VRs φ S w us ys→VRs φ S w (vs++us) (xs++ys)
 |[],_,_,_,h,k=>by simp only[VRs]at h;subst h;exact k
 |v::vs,us,xs,ys,h,k=>by
  simp only[VRs]at h
  obtain⟨x,r,rfl,h2,h3⟩:=h
  exact VRs.cons h2 (h3.append k)
theorem VRs.split:∀ {vs us:List V} {xs:List Value},VRs φ S w (vs++us) xs→VRs φ S w vs (xs.take vs.length)∧VRs φ S w us (xs.drop vs.length)
 |[],us,xs,h=>by simpa[VRs]using h
 |v::vs,us,xs,h=>by
  simp only[List.cons_append,VRs]at h
  obtain⟨x,r,rfl,h2,h3⟩:=h
  obtain⟨h4,h5⟩:=h3.split
  simp only[List.length_cons,List.take_succ_cons,List.drop_succ_cons]
  exact⟨.cons h2 h4,h5⟩
theorem VRs.get:∀ {vs:List V} {xs:List Value},VRs φ S w vs xs→∀ {j:Nat} {v:V},vs[j]? = some v→∃x,xs[j]? = some x∧VR φ S w v x
 |[],_,_,j,v,hv=>by simp at hv
 |v::vs,xs,h,j,u,hv=>by
  simp only[VRs]at h
  obtain⟨x,r,rfl,h2,h3⟩:=h
  cases j with
  |zero=>simp at hv;subst hv;exact⟨x,rfl,h2⟩
  |succ j=>simpa using h3.get (by simpa using hv)
theorem VRs.drop {vs:List V} {xs:List Value} (h:VRs φ S w vs xs) (n:Nat):VRs φ S w (vs.drop n) (xs.drop n):=by
 induction n generalizing vs xs with
 |zero=>simpa using h
 |succ n ih=>
  cases vs with
  |nil=>simp only[VRs]at h;subst h;simp[VRs]
  |cons v vs=>
   simp only[VRs]at h
   obtain⟨x,r,rfl,_,h3⟩:=h
   simpa using ih h3
theorem VRs.take {vs:List V} {xs:List Value} (h:VRs φ S w vs xs) (n:Nat):VRs φ S w (vs.take n) (xs.take n):=by
 induction n generalizing vs xs with
 |zero=>simp[VRs]
 |succ n ih=>
  cases vs with
  |nil=>simp only[VRs]at h;subst h;simp[VRs]
  |cons v vs=>
   simp only[VRs]at h
   obtain⟨x,r,rfl,h2,h3⟩:=h
   simpa using VRs.cons h2 (ih h3)
theorem VRs.set:∀ {vs:List V} {xs:List Value},VRs φ S w vs xs→∀(j:Nat) {v:V} {x:Value},VR φ S w v x→VRs φ S w (vs.set j v) (xs.set j x)
 |[],_,h,j,v,x,_=>by simp only[VRs]at h;subst h;simp[VRs]
 |u::vs,xs,h,j,v,x,hv=>by
  simp only[VRs]at h
  obtain⟨y,r,rfl,h2,h3⟩:=h
  cases j with
  |zero=>exact .cons hv h3
  |succ j=>exact .cons h2 (h3.set j hv)
theorem VRr.nil {z:Nat}:VRr φ S w z [] []:=by simp only[VRr]
theorem VRr.cons {z:Nat} {r:List V} {rs:List (List V)} {ys zs:List Value} (hz:r.length=z) (h:VRs φ S w r ys) (h1:∀u∈ys,u.oneCell'=true) (k:VRr φ S w z rs zs):VRr φ S w z (r::rs) (ys++zs):=by
 simp only[VRr];exact⟨ys,zs,rfl,hz,h,h1,k⟩
theorem VRr.append {z:Nat}:∀ {rs qs:List (List V)} {xs ys:List Value},VRr φ S w z rs xs→VRr φ S w z qs ys→VRr φ S w z (rs++qs) (xs++ys)
 |[],_,_,_,h,k=>by simp only[VRr]at h;subst h;exact k
 |r::rs,qs,xs,ys,h,k=>by
  simp only[VRr]at h
  obtain⟨a,b,rfl,h2,h3,h0,h4⟩:=h
  rw[List.append_assoc]
  exact .cons h2 h3 h0 (h4.append k)
theorem VRr.len {z:Nat}:∀ {rs:List (List V)} {xs:List Value},VRr φ S w z rs xs→xs.length=rs.length * z
 |[],_,h=>by simp only[VRr]at h;subst h;simp
 |r::rs,xs,h=>by
  simp only[VRr]at h
  obtain⟨a,b,rfl,h2,h3,h0,h4⟩:=h
  simp only[List.length_append,h3.len,h4.len,h2,List.length_cons,Nat.add_mul];omega
theorem VRr.rowlen {z:Nat}:∀ {rs:List (List V)} {xs:List Value},VRr φ S w z rs xs→∀r∈rs,r.length=z
 |[],_,_,r,hr=>by cases hr
 |q::rs,xs,h,r,hr=>by
  simp only[VRr]at h
  obtain⟨a,b,rfl,h2,h3,h0,h4⟩:=h
  rcases List.mem_cons.1 hr with rfl|hr
  ·exact h2
  exact h4.rowlen r hr
theorem VRr.drop {z:Nat}:∀ {rs:List (List V)} {xs:List Value},VRr φ S w z rs xs→∀n,VRr φ S w z (rs.drop n) (xs.drop (n * z))
 |rs,xs,h,0=>by simpa using h
 |[],xs,h,n+1=>by simp only[VRr]at h;subst h;simp[VRr]
 |r::rs,xs,h,n+1=>by
  simp only[VRr]at h
  obtain⟨a,b,rfl,h2,h3,h0,h4⟩:=h
  have hl:a.length=z:=h3.len.trans h2
  rw[List.drop_succ_cons,Nat.add_mul,Nat.one_mul,Nat.add_comm,←hl,List.drop_length_add_append,hl]
  exact h4.drop n
theorem VRr.take {z:Nat}:∀ {rs:List (List V)} {xs:List Value},VRr φ S w z rs xs→∀n,VRr φ S w z (rs.take n) (xs.take (n * z))
 |rs,xs,h,0=>by simp[VRr]
 |[],xs,h,n+1=>by simp only[VRr]at h;subst h;simp[VRr]
 |r::rs,xs,h,n+1=>by
  simp only[VRr]at h
  obtain⟨a,b,rfl,h2,h3,h0,h4⟩:=h
  have hl:a.length=z:=h3.len.trans h2
  rw[List.take_succ_cons,Nat.add_mul,Nat.one_mul,Nat.add_comm,←hl,List.take_length_add_append,hl]
  exact .cons h2 h3 h0 (h4.take n)
theorem VRr.row {z:Nat} {rs:List (List V)} {xs:List Value} (h:VRr φ S w z rs xs) {j:Nat} {r:List V} (hr:rs[j]? = some r) :
  r.length=z∧VRs φ S w r ((xs.drop (j * z)).take z):=by
 have hd:=h.drop j
 have hj:=(List.getElem?_eq_some_iff.1 hr)
 rw[List.drop_eq_getElem_cons hj.1,hj.2]at hd
 simp only[VRr]at hd
 obtain⟨a,b,e,h2,h3,h0,h4⟩:=hd
 refine⟨h2,?_⟩
 rw[e,List.take_append_of_le_length (by rw[h3.len,h2];exact Nat.le_refl _),List.take_of_length_le (by rw[h3.len,h2];exact Nat.le_refl _)]
 exact h3
theorem VRr.ones {z:Nat}:∀ {rs:List (List V)} {xs:List Value},VRr φ S w z rs xs→∀u∈xs,u.oneCell'=true
 |[],_,h=>by simp only[VRr]at h;subst h;intro u hu;cases hu
 |r::rs,xs,h=>by
  simp only[VRr]at h
  obtain⟨a,b,rfl,h2,h3,h0,h4⟩:=h
  intro u hu
  rcases List.mem_append.1 hu with hu|hu
  ·exact h0 u hu
  exact h4.ones u hu
end
def V.one:V→Bool
 |.ag _|.tu _|.gd _ _|.no=>false
 |_=>true
theorem VR.oneCell {φ:Phi} {S:Nat→Prop} {w:World} {v:V} {x:Value} (h:VR φ S w v x) (h1:v.one=true):x.oneCell'=true:=by
 cases v<;>simp only[V.one]at h1<;>try contradiction
 all_goals simp only[VR]at h
 ·subst h;rfl
 ·subst h;rfl
 ·subst h;rfl
 ·obtain⟨A,c,z,xs,h1,_⟩:=h;subst h1;rfl
 ·obtain⟨A,c,h1,_⟩:=h;subst h1;rfl
 ·obtain⟨g,_,h1⟩:=h;subst h1;unfold ptV;split<;>rfl
 ·obtain⟨g,o,xs,h1,_⟩:=h;subst h1;rfl
 ·subst h;rfl
 ·exact h.2
 obtain⟨a',c',h1,_⟩:=h;subst h1;rfl
def V.cells:V→List V
 |.ag cs=>cs
 |v=>[v]
theorem VR.cells {φ:Phi} {S:Nat→Prop} {w:World} {v:V} {x:Value} (h:VR φ S w v x) (h1:v.one=true∨∃cs,v = .ag cs):VRs φ S w v.cells x.cells.toList:=by
 rcases h1 with h1|⟨cs,rfl⟩
 ·have:=h.oneCell h1
  have e1:v.cells=[v]:=by cases v<;>first|rfl|(simp[V.one]at h1)
  have e2:x.cells.toList=[x]:=by cases x<;>first|rfl|(simp[Value.oneCell']at this)
  rw[e1,e2]
  exact .cons h .nil
 simp only[VR]at h
 obtain⟨xs,rfl,h2⟩:=h
 exact h2
end
section
open Go.RowKit
structure Blk where
 T:TypeId
 z:Nat
 rows:List (List V)
abbrev Mem:=Nat→Option Blk
structure Env where
 P:Program
 G:Nat→Option (List V)
 H:Nat→World→Prop
 hst:∀B w w',H B w→(∀g,g<B→w'.heap[g]? = w.heap[g]?)→H B w'
def tc_ (l:Nat):Bool:=decide (l<10)||decide (1000000000≤l)
structure Cx where
 w0:World
 φ0:Phi
 S0:Nat→Prop
 Pb:Nat→Prop
 low:∀l,φ0 l≠none→tc_ l=true
 sub:∀g,Pb g→S0 g
structure St where
 σ:List V
 m:Mem
 u:Nat→Bool
def aqw_ (es:Array MapEntry):List Value:=es.toList.flatMap fun e=>[e.key,e.val]
def MR (φ:Phi) (S:Nat→Prop) (w:World) (l:Nat) (b:Blk):Prop:=
 (φ l=some none∧b.rows=[])∨(∃g arr xs,φ l=some (some g)∧w.heap[g]? = some (.cells arr b.T (0,0))∧VRr φ S w b.z b.rows xs∧arr.toList.take xs.length=xs∧0<b.z)∨
  ∃g es ck xs,φ l=some (some g)∧w.heap[g]? = some (.map es ck)∧b.z=0∧VRr φ S w 2 b.rows xs∧xs=aqw_ es
def wi_ (φ:Phi) (m:Mem) (g:Nat):Prop:=∀l b,m l=some b→φ l≠some (some g)
def Cx.S (C:Cx) (φ:Phi) (m:Mem) (g:Nat):Prop:=(C.S0 g∨C.w0.heap.size≤g)∧wi_ φ m g
structure FrameW (Pb:Nat→Prop) (w w':World):Prop where
 os:w'.os=w.os
 tape:w'.tape=w.tape
 output:w'.output=w.output
 size:w.heap.size≤w'.heap.size
 block:∀g,g<w.heap.size→¬Pb g→w'.heap[g]? = w.heap[g]?
 shape:∀g x,w.shape? g=some x→w'.shape? g=some x
theorem FrameW.refl (Pb:Nat→Prop) (w:World):FrameW Pb w w:=⟨rfl,rfl,rfl,Nat.le_refl _,fun _ _ _=>rfl,fun _ _ h=>h⟩
theorem FrameW.trans {Pb Qb:Nat→Prop} {w0 w w':World} (h:FrameW Pb w0 w) (k:FrameW Qb w w') (hq:∀g,Qb g→Pb g∨w0.heap.size≤g):FrameW Pb w0 w':=
  ⟨k.os.trans h.os,k.tape.trans h.tape,k.output.trans h.output,Nat.le_trans h.size k.size,
   fun g hg hp=>(k.block g (Nat.lt_of_lt_of_le hg h.size) (fun hh=>by rcases hq g hh with h1|h1;exact hp h1;omega)).trans (h.block g hg hp),
   fun g x hx=>k.shape g x (h.shape g x hx)⟩
theorem FrameW.mono {Pb Qb:Nat→Prop} {w w':World} (h:FrameW Pb w w') (hq:∀g,g<w.heap.size→Pb g→Qb g):FrameW Qb w w':=
 ⟨h.os,h.tape,h.output,h.size,fun g hg hp=>h.block g hg (fun hh=>hp (hq g hg hh)),h.shape⟩
theorem fx_ {w w':World} {g:Nat} (h:w'.heap[g]? = w.heap[g]?):w'.shape? g=w.shape? g:=by simp[World.shape?,h]
theorem asf_ {w:World} {g:Nat} {x:TypeId × Nat} (h:w.shape? g=some x):g<w.heap.size:=by
 rcases Nat.lt_or_ge g w.heap.size with h1|h1
 ·exact h1
 simp[World.shape?,Array.getElem?_eq_none h1]at h
theorem FrameW.below {w w':World} (h:Below w.heap.size w w') (Pb:Nat→Prop):FrameW Pb w w':=
 ⟨h.os,h.tape,h.output,h.size,fun g hg _=>h.block g hg,fun g x hx=>by rw[fx_ (h.block g (asf_ hx))];exact hx⟩
theorem FrameW.toBelow {w w':World} (h:FrameW (fun _=>False) w w'):Below w.heap.size w w':=
 ⟨h.os,h.tape,h.output,h.size,fun g hg=>h.block g hg id⟩
theorem FrameW.drew (Pb:Nat→Prop) (w:World):FrameW Pb w w.drew:=⟨rfl,rfl,rfl,Nat.le_refl _,fun _ _ _=>rfl,fun _ _ h=>h⟩
theorem FrameW.alloc (Pb:Nat→Prop) (w:World) (o:Obj):FrameW Pb w (w.alloc o):=FrameW.below ((Below.refl _ _).alloc (Nat.le_refl _) o) Pb
structure RelAt (E:Env) (C:Cx) (φ:Phi) (s:St) (a:Act) (w:World):Prop where
 defers:a.defers=[]
 slots:VRs φ (C.S φ s.m) w s.σ a.tmps.toList
 mem:∀l b,s.m l=some b→MR φ (C.S φ s.m) w l b
 inj:∀l l' b b' g,s.m l=some b→s.m l'=some b'→φ l=some (some g)→φ l'=some (some g)→l=l'
 own:∀l b g,s.m l=some b→φ l=some (some g)→C.Pb g∨C.w0.heap.size≤g
 used:∀l,φ l≠none→s.u l=true
 phi0:∀l x,C.φ0 l=some x→φ l=some x
 frame:FrameW C.Pb C.w0 w
 glob:∀g cs,E.G g=some cs→VR (fun _=>none) (C.S φ s.m) w (.rp cs) (.pointer (some ⟨g,0,none⟩))
 lad:∃B,E.H B C.w0∧B≤C.w0.heap.size∧∀g,C.Pb g→B≤g
def upd (m:Mem) (l:Nat) (b:Option Blk):Mem:=fun x=>if x=l then b else m x
@[simp] theorem dd_ (m:Mem) (l:Nat) (b:Option Blk):upd m l b l=b:=by simp[upd]
theorem bs_ (m:Mem) {l x:Nat} (h:x≠l) (b:Option Blk):upd m l b x=m x:=by simp[upd,h]
section
variable {E:Env} {C:Cx} {φ φ':Phi} {s:St} {a:Act} {w w':World} {S S':Nat→Prop}
theorem MR.keep (hk:KeepsW φ φ' S S' w w') {l:Nat} {b:Blk} (hb:∀g,φ l=some (some g)→w'.heap[g]? = w.heap[g]?) (h:MR φ S w l b):MR φ' S' w' l b:=by
 rcases h with⟨h1,h2⟩|⟨g,arr,xs,h1,h2,h3,h4,hzz⟩|⟨g,es,ck,xs,h1,h2,h3,h4,h5⟩
 ·exact .inl ⟨hk.phi _ _ h1,h2⟩
 ·exact .inr (.inl ⟨g,arr,xs,hk.phi _ _ h1,(hb g h1).trans h2,h3.keep hk,h4,hzz⟩)
 exact .inr (.inr ⟨g,es,ck,xs,hk.phi _ _ h1,(hb g h1).trans h2,h3,h4.keep hk,h5⟩)
theorem RelAt.step (h:RelAt E C φ s a w) {m':Mem} {u':Nat→Bool} (hphi:∀l x,φ l=some x→φ' l=some x) (hused:∀l,φ' l≠none→u' l=true)
  (hset:∀g,C.S φ s.m g→g<w.heap.size→C.S φ' m' g∧w'.heap[g]? = w.heap[g]?) {Qb:Nat→Prop} (hfr:FrameW Qb w w') (hq:∀g,Qb g→C.Pb g∨C.w0.heap.size≤g)
  (hmem:∀l b,m' l=some b→(s.m l=some b∧∀g,φ l=some (some g)→w'.heap[g]? = w.heap[g]?)∨MR φ' (C.S φ' m') w' l b)
  (hinj:∀l l' b b' g,m' l=some b→m' l'=some b'→φ' l=some (some g)→φ' l'=some (some g)→l=l')
  (hown:∀l b g,m' l=some b→φ' l=some (some g)→C.Pb g∨C.w0.heap.size≤g):RelAt E C φ' ⟨s.σ,m',u'⟩ a w':=by
 have hk:KeepsW φ φ' (C.S φ s.m) (C.S φ' m') w w':=⟨hphi,hset,hfr.size,hfr.shape⟩
 refine⟨h.defers,h.slots.keep hk,fun l b hb=>?_,hinj,hown,hused,fun l x hx=>hphi l x (h.phi0 l x hx),h.frame.trans hfr hq,fun g cs hg=>(h.glob g cs hg).keep (φ':=fun _=>none) ⟨fun _ _ h=>h,hset,hfr.size,hfr.shape⟩,h.lad⟩
 rcases hmem l b hb with⟨h1,h2⟩|h1
 ·exact(h.mem l b h1).keep hk h2
 exact h1
theorem RelAt.keeps (_h:RelAt E C φ s a w) {m':Mem} (hphi:∀l x,φ l=some x→φ' l=some x)
  (hset:∀g,C.S φ s.m g→g<w.heap.size→C.S φ' m' g∧w'.heap[g]? = w.heap[g]?) {Qb:Nat→Prop} (hfr:FrameW Qb w w'):KeepsW φ φ' (C.S φ s.m) (C.S φ' m') w w':=
 ⟨hphi,hset,hfr.size,hfr.shape⟩
def St.put (s:St) (d:Option Tmp) (v:V):St:=match d with|some t=>{ s with σ:=s.σ.set t v }|none=>s
@[simp] theorem St.put_m (s:St) (d:Option Tmp) (v:V):(s.put d v).m=s.m:=by cases d<;>rfl
@[simp] theorem St.put_u (s:St) (d:Option Tmp) (v:V):(s.put d v).u=s.u:=by cases d<;>rfl
theorem RelAt.put (h:RelAt E C φ s a w) (d:Option Tmp) {v:V} {x:Value} (hv:VR φ (C.S φ s.m) w v x):RelAt E C φ (s.put d v) (a.put d x) w:=by
 cases d with
 |none=>exact h
 |some t=>exact⟨h.defers,by simpa[St.put,Act.put]using h.slots.set t hv,h.mem,h.inj,h.own,h.used,h.phi0,h.frame,h.glob,h.lad⟩
theorem RelAt.drew (h:RelAt E C φ s a w):RelAt E C φ s a w.drew:=by
 have:=h.step (φ':=φ) (m':=s.m) (u':=s.u) (w':=w.drew) (fun _ _ h=>h) h.used (fun g hg _=>⟨hg,rfl⟩) (FrameW.drew (fun _=>False) w) (fun _ h=>h.elim)
  (fun l b hb=>.inl ⟨hb,fun _ _=>rfl⟩) h.inj h.own
 exact this
theorem RelAt.tmps (h:RelAt E C φ s a w):a.tmps.size=s.σ.length:=by simpa using h.slots.len
theorem MR.lt {l:Nat} {b:Blk} {g:Nat} (h:MR φ S w l b) (hg:φ l=some (some g)):g<w.heap.size:=by
 rcases h with⟨h1,_⟩|⟨g',arr,xs,h1,h2,_⟩|⟨g',es,ck,xs,h1,h2,_⟩
 ·rw[h1]at hg;cases hg
 ·rw[h1]at hg;cases hg;exact(Array.getElem?_eq_some_iff.1 h2).1
 rw[h1]at hg;cases hg;exact(Array.getElem?_eq_some_iff.1 h2).1
theorem MR.name {l:Nat} {b:Blk} (h:MR φ S w l b):φ l≠none:=by
 rcases h with⟨h1,_⟩|⟨g',arr,xs,h1,h2,_⟩|⟨g',es,ck,xs,h1,h2,_⟩<;>rw[h1]<;>simp
theorem RelAt.alloc (h:RelAt E C φ s a w) {l:Nat} (hl:s.u l=false) {arr:Array Value} {T:TypeId} {z:Nat} (hz:0<z) {rows:List (List V)} {xs:List Value} (hr:VRr φ (C.S φ s.m) w z rows xs) (hx:arr.toList.take xs.length=xs) :
  RelAt E C (fun x=>if x=l then some (some w.heap.size)else φ x) ⟨s.σ,upd s.m l (some ⟨T,z,rows⟩),fun x=>if x=l then true else s.u x⟩ a (w.alloc (.cells arr T))∧
   VR (fun x=>if x=l then some (some w.heap.size)else φ x) (C.S (fun x=>if x=l then some (some w.heap.size)else φ x) (upd s.m l (some ⟨T,z,rows⟩))) (w.alloc (.cells arr T)) (.pt l z 0 0) (.pointer (some ⟨w.heap.size,0,none⟩)):=by
 have hn:φ l=none:=by
  cases hh:φ l with
  |none=>rfl
  |some x=>have:=h.used l (by rw[hh];simp);rw[hl]at this;cases this
 have hphi:∀x y,φ x=some y→(fun x=>if x=l then some (some w.heap.size)else φ x) x=some y:=fun x y hxy=>by
  by_cases e:x=l
  ·subst e;rw[hn]at hxy;cases hxy
  simpa[e]using hxy
 have hml:s.m l=none:=by
  cases hh:s.m l with
  |none=>rfl
  |some b=>exact absurd hn (h.mem l b hh).name
 have hset:∀g,C.S φ s.m g→g<w.heap.size→C.S (fun x=>if x=l then some (some w.heap.size)else φ x) (upd s.m l (some ⟨T,z,rows⟩)) g∧(w.alloc (.cells arr T)).heap[g]? = w.heap[g]?:=fun g hg hlt=>by
  refine⟨⟨hg.1,fun x b hb=>?_⟩,Below.heap_alloc w _ g hlt⟩
  by_cases e:x=l
  ·subst e;simp only[if_pos];intro hh;cases hh;exact absurd hlt (Nat.lt_irrefl _)
  rw[bs_ _ e]at hb;simp only[e,if_false];exact hg.2 x b hb
 have hfr:=FrameW.alloc (fun _=>False) w (.cells arr T)
 refine⟨h.step hphi (fun x hx=>?_) hset hfr (fun _ h=>h.elim) (fun x b hb=>?_) (fun x x' b b' g hb hb' hg hg'=>?_) (fun x b g hb hg=>?_),?_⟩
 ·by_cases e:x=l
  ·simp[e]
  simp only[e,if_false]at hx ⊢;exact h.used x hx
 ·by_cases e:x=l
  ·subst e
   rw[dd_]at hb;cases hb
   exact .inr (.inr (.inl ⟨w.heap.size,arr,xs,by simp,heap_alloc_new w _,hr.keep (h.keeps hphi hset hfr),hx,hz⟩))
  rw[bs_ _ e]at hb
  exact .inl ⟨hb,fun g hg=>Below.heap_alloc w _ g ((h.mem x b hb).lt hg)⟩
 ·by_cases e:x=l<;>by_cases e':x'=l
  ·rw[e,e']
  ·subst e
   rw[bs_ _ e']at hb'
   simp only[if_pos,e',if_false]at hg hg'
   cases hg
   exact absurd ((h.mem x' b' hb').lt hg') (Nat.lt_irrefl _)
  ·subst e'
   rw[bs_ _ e]at hb
   simp only[if_pos,e,if_false]at hg hg'
   cases hg'
   exact absurd ((h.mem x b hb).lt hg) (Nat.lt_irrefl _)
  rw[bs_ _ e]at hb;rw[bs_ _ e']at hb'
  simp only[e,e',if_false]at hg hg'
  exact h.inj x x' b b' g hb hb' hg hg'
 ·by_cases e:x=l
  ·subst e;simp only[if_pos]at hg;cases hg;exact .inr h.frame.size
  rw[bs_ _ e]at hb;simp only[e,if_false]at hg;exact h.own x b g hb hg
 simp only[VR];exact⟨w.heap.size,by simp,by rw[dq_ hz];simp⟩
theorem RelAt.empty (h:RelAt E C φ s a w) {l:Nat} (hl:s.u l=false) (T:TypeId) (z:Nat) :
  RelAt E C (fun x=>if x=l then some none else φ x) ⟨s.σ,upd s.m l (some ⟨T,z,[]⟩),fun x=>if x=l then true else s.u x⟩ a w:=by
 have hn:φ l=none:=by
  cases hh:φ l with
  |none=>rfl
  |some x=>have:=h.used l (by rw[hh];simp);rw[hl]at this;cases this
 have hphi:∀x y,φ x=some y→(fun x=>if x=l then some none else φ x) x=some y:=fun x y hxy=>by
  by_cases e:x=l
  ·subst e;rw[hn]at hxy;cases hxy
  simpa[e]using hxy
 have hset:∀g,C.S φ s.m g→g<w.heap.size→C.S (fun x=>if x=l then some none else φ x) (upd s.m l (some ⟨T,z,[]⟩)) g∧w.heap[g]? = w.heap[g]?:=fun g hg hlt=>by
  refine⟨⟨hg.1,fun x b hb=>?_⟩,rfl⟩
  by_cases e:x=l
  ·subst e;simp
  rw[bs_ _ e]at hb;simp only[e,if_false];exact hg.2 x b hb
 refine h.step hphi (fun x hx=>?_) hset (FrameW.refl (fun _=>False) w) (fun _ h=>h.elim) (fun x b hb=>?_) (fun x x' b b' g hb hb' hg hg'=>?_) (fun x b g hb hg=>?_)
 ·by_cases e:x=l
  ·simp[e]
  simp only[e,if_false]at hx ⊢;exact h.used x hx
 ·by_cases e:x=l
  ·subst e;rw[dd_]at hb;cases hb;exact .inr (.inl ⟨by simp,rfl⟩)
  rw[bs_ _ e]at hb;exact .inl ⟨hb,fun _ _=>rfl⟩
 ·by_cases e:x=l
  ·subst e;simp at hg
  by_cases e':x'=l
  ·subst e';simp at hg'
  rw[bs_ _ e]at hb;rw[bs_ _ e']at hb'
  simp only[e,e',if_false]at hg hg'
  exact h.inj x x' b b' g hb hb' hg hg'
 by_cases e:x=l
 ·subst e;simp at hg
 rw[bs_ _ e]at hb;simp only[e,if_false]at hg;exact h.own x b g hb hg
theorem RelAt.write (h:RelAt E C φ s a w) {l:Nat} {b:Blk} (hb:s.m l=some b) {g:Nat} (hg:φ l=some (some g)) {rows:List (List V)} {xs:List Value} {arr arr':Array Value} {T:TypeId}
  (ha:w.heap[g]? = some (.cells arr T (0,0))) (hT:T=b.T) (hsz:arr'.size=arr.size) (hw:w'.heap[g]? = some (.cells arr' T (0,0))) (hsame:∀k,k≠g→w'.heap[k]? = w.heap[k]?) (hhs:w'.heap.size=w.heap.size)
  (hos:w'.os=w.os∧w'.tape=w.tape∧w'.output=w.output)
  (hr:VRr φ (C.S φ s.m) w b.z rows xs) (hx:arr'.toList.take xs.length=xs):RelAt E C φ ⟨s.σ,upd s.m l (some { b with rows:=rows }),s.u⟩ a w':=by
 subst hT
 have hS:C.S φ (upd s.m l (some { b with rows:=rows }))=C.S φ s.m:=by
  funext k
  simp only[Cx.S,wi_,eq_iff_iff]
  refine and_congr_right fun _=>⟨fun hh x b' hb'=>?_,fun hh x b' hb'=>?_⟩
  ·by_cases e:x=l
   ·subst e;exact hh x _ (dd_ _ _ _)
   exact hh x b' (by rw[bs_ _ e];exact hb')
  by_cases e:x=l
  ·subst e;exact hh x b hb
  rw[bs_ _ e]at hb';exact hh x b' hb'
 have hset:∀k,C.S φ s.m k→k<w.heap.size→C.S φ (upd s.m l (some { b with rows:=rows })) k∧w'.heap[k]? = w.heap[k]?:=fun k hk _=>
  ⟨by rw[hS];exact hk,hsame k (fun e=>hk.2 l b hb (by rw[e];exact hg))⟩
 have hfr:FrameW (fun k=>k=g) w w':=⟨hos.1,hos.2.1,hos.2.2,by omega,fun k _ hk=>hsame k hk,fun k x hx=>by
  by_cases e:k=g
  ·subst e
   simp only[World.shape?,ha,hw]at hx ⊢
   rw[hsz];exact hx
  rw[fx_ (hsame k e)];exact hx⟩
 refine h.step (fun _ _ h=>h) h.used hset hfr (fun k hk=>by subst hk;exact h.own l b k hb hg) (fun x b' hb'=>?_) (fun x x' b1 b2 k h1 h2 h3 h4=>?_) (fun x b1 k h1 h3=>?_)
 ·by_cases e:x=l
  ·subst e
   rw[dd_]at hb';cases hb'
   refine .inr (.inr (.inl ⟨g,arr',xs,hg,hw,?_,hx,?_⟩))
   rotate_left
   ·rcases h.mem x b hb with⟨q1,_⟩|⟨_,_,_,_,_,_,_,q1⟩|⟨g',es,ck,_,q1,q2,_⟩
    ·rw[hg]at q1;cases q1
    ·exact q1
    rw[hg]at q1;cases q1;rw[ha]at q2;cases q2
   have hk:=h.keeps (fun _ _ h=>h) hset hfr
   exact hr.keep hk
  rw[bs_ _ e]at hb'
  exact .inl ⟨hb',fun k hk=>hsame k (fun e'=>e (h.inj x l b' b g hb' hb (by rw[←e'];exact hk) hg))⟩
 ·have f:∀y c,upd s.m l (some { b with rows:=rows }) y=some c→∃c',s.m y=some c':=fun y c hy=>by
   by_cases e:y=l
   ·subst e;exact⟨b,hb⟩
   rw[bs_ _ e]at hy;exact⟨c,hy⟩
  obtain⟨c1,h1⟩:=f _ _ h1
  obtain⟨c2,h2⟩:=f _ _ h2
  exact h.inj x x' c1 c2 k h1 h2 h3 h4
 by_cases e:x=l
 ·subst e;exact h.own x b k hb h3
 rw[bs_ _ e]at h1;exact h.own x b1 k h1 h3
end
end
section
open Go.RowKit
def V.ofConst1:Value→V
 |.int k n=>.i k n
 |.bool x=>.b x
 |.string x=>.s x.data.toList
 |.slice none 0 0=>.sl true []
 |.pointer none=>.np
 |_=>.no
def V.ofConst:Value→V
 |.agg cs=>.ag (cs.toList.map V.ofConst1)
 |v=>V.ofConst1 v
theorem VR.const1 (φ:Phi) (S:Nat→Prop) (w:World) (v:Value):VR φ S w (V.ofConst1 v) v:=by
 cases v with
 |slice A n c=>
  cases A with
  |some a=>simp only[V.ofConst1,VR]
  |none=>
   cases n with
   |succ n=>simp only[V.ofConst1,VR]
   |zero=>
    cases c with
    |succ n=>simp only[V.ofConst1,VR]
    |zero=>
     simp only[V.ofConst1,VR,VRr]
     exact⟨none,0,0,[],rfl,Nat.le_refl _,Nat.zero_le _,fun _=>rfl,fun h=>absurd rfl h,rfl⟩
 |pointer a=>cases a<;>simp only[V.ofConst1,VR]
 |string b=>simp only[V.ofConst1,VR]
 |int k n=>simp only[V.ofConst1,VR]
 |bool b=>simp only[V.ofConst1,VR]
 |float _ _=>simp only[V.ofConst1,VR]
 |complex _ _ _=>simp only[V.ofConst1,VR]
 |map _=>simp only[V.ofConst1,VR]
 |chan _=>simp only[V.ofConst1,VR]
 |func _ _ _=>simp only[V.ofConst1,VR]
 |nilFunc=>simp only[V.ofConst1,VR]
 |iface _ _=>simp only[V.ofConst1,VR]
 |nilIface=>simp only[V.ofConst1,VR]
 |agg _=>simp only[V.ofConst1,VR]
 |tuple _=>simp only[V.ofConst1,VR]
theorem VRs.const (φ:Phi) (S:Nat→Prop) (w:World):∀l:List Value,VRs φ S w (l.map V.ofConst1) l
 |[]=>.nil
 |x::r=>.cons (VR.const1 φ S w x) (VRs.const φ S w r)
theorem VR.const (φ:Phi) (S:Nat→Prop) (w:World) (v:Value):VR φ S w (V.ofConst v) v:=by
 cases v with
 |agg cs=>simp only[V.ofConst,VR];exact⟨cs,rfl,VRs.const φ S w cs.toList⟩
 |_=>simp only[V.ofConst];exact VR.const1 φ S w _
inductive TK where
 |st (fs:List (Nat × Nat × Bool))
 |sl (e z y:Nat) (zero:List V)
 |str
 |int (k:IntKind)
 |bool
 |other
structure TI where
 k:TK
 size:Nat
 zero:V
def aggD:TypeDesc→Bool|.struct _|.array _ _=>true|_=>false
def aqc_ (P:Program) (t:TypeId):Bool:=match P.underlying t with|some (.struct _)|some (.array _ _)=>true|_=>false
def aq_ (P:Program) (t:TypeId):V:=match (P.info? t).bind (·.zero)with|some v=>V.ofConst v|none=>.no
def j3_ (P:Program):TypeDesc→Option TK
 |.struct fs=>some (.st (fs.toList.map fun f=>(f.offset,P.cellsOf f.type,aqc_ P f.type)))
 |.slice e=>some (.sl e (P.cellsOf e) (P.bytesOf e) (aq_ P e).cells)
 |.array _ _=>none
 |.string=>some .str
 |.int k=>some (.int k)
 |.bool=>some .bool
 |_=>some .other
def ax_ (P:Program) (t:TypeId):Option TI:=
 match P.info? t,P.underlying t with
 |some i,some d=>(j3_ P d).map fun k=>⟨k,i.size,aq_ P t⟩
 |_,_=>none
def TK.agg:TK→Bool|.st _=>true|_=>false
section
variable {P:Program} {t:TypeId} {ti:TI} (w:World)
theorem f6_ (h:ax_ P t=some ti):∃i d,P.info? t=some i∧P.underlying t=some d∧j3_ P d=some ti.k∧i.size=ti.size∧ti.zero=aq_ P t:=by
 unfold ax_ at h
 split at h
 ·rename_i i d h1 h2
  cases hk:j3_ P d with
  |none=>simp[hk]at h
  |some k=>simp[hk]at h;subst h;exact⟨i,d,h1,h2,rfl.trans hk,rfl,rfl⟩
 cases h
theorem aj4_ {d:TypeDesc} {k:TK} (h:j3_ P d=some k):aggD d=k.agg:=by
 cases d<;>simp[j3_]at h<;>subst h<;>rfl
theorem aod_ (h:ax_ P t=some ti):(isAgg t).run P w = .ok ti.k.agg w:=by
 obtain⟨i,d,h1,h2,h3,h4,h5⟩:=f6_ h
 have:=aj4_ h3
 unfold isAgg
 simp only[Sem.run_bind,run_underlying h2,Result.andThen_ok]
 rw[←this]
 clear h3 this h2
 cases d<;>rfl
theorem su_ (h:ax_ P t=some ti):(sizeOf t).run P w = .ok ti.size w:=by
 obtain⟨i,d,h1,h2,h3,h4,h5⟩:=f6_ h
 simp[sizeOf,typeInfo,h1,h4]
theorem al1_ {fs:List (Nat × Nat × Bool)} (h:ax_ P t=some ti) (hk:ti.k = .st fs):∃gs:Array Field,P.underlying t=some (.struct gs)∧fs=gs.toList.map fun f=>(f.offset,P.cellsOf f.type,aqc_ P f.type):=by
 obtain⟨i,d,h1,h2,h3,h4,h5⟩:=f6_ h
 rw[hk]at h3
 cases d<;>simp[j3_]at h3
 exact⟨_,h2,h3.symm⟩
theorem tn_ {e z y:Nat} {zero:List V} (h:ax_ P t=some ti) (hk:ti.k = .sl e z y zero):P.underlying t=some (.slice e)∧z=P.cellsOf e∧y=P.bytesOf e∧zero=(aq_ P e).cells:=by
 obtain⟨i,d,h1,h2,h3,h4,h5⟩:=f6_ h
 rw[hk]at h3
 cases d<;>simp[j3_]at h3
 obtain⟨rfl,rfl,rfl,rfl⟩:=h3
 exact⟨h2,rfl,rfl,rfl⟩
theorem agl_ (h:ax_ P t=some ti) (hk:ti.k = .str):P.underlying t=some .string:=by
 obtain⟨i,d,h1,h2,h3,h4,h5⟩:=f6_ h
 rw[hk]at h3
 cases d<;>simp[j3_]at h3
 exact h2
theorem vh_ {k:IntKind} (h:ax_ P t=some ti) (hk:ti.k = .int k):P.underlying t=some (.int k):=by
 obtain⟨i,d,h1,h2,h3,h4,h5⟩:=f6_ h
 rw[hk]at h3
 cases d<;>simp[j3_]at h3
 subst h3
 exact h2
theorem ce_ {n:Nat} (h:P.cellsOf t=n) (hn:0<n):(sizeOf t).run P w = .ok n w:=by
 unfold Program.cellsOf at h
 cases hi:P.info? t with
 |none=>simp[hi]at h;omega
 |some i=>simp[hi]at h;simp[sizeOf,typeInfo,hi,h]
end
def St.ev (E:Env) (s:St):Operand→V
 |.tmp t=>s.σ.getD t .no
 |.const v=>V.ofConst v
 |.global g=>match E.G g with|some cs=>.rp cs|none=>.no
 |.func f=>.fn (.func f) [] []
structure Eff where
 v:V
 wr:List (Nat × Option Blk):=[]
 nw:List Nat:=[]
 rd:List Nat:=[]
def Eff.mem (e:Eff) (m:Mem):Mem:=e.wr.foldl (fun m p=>upd m p.1 p.2) m
def Eff.use (e:Eff) (u:Nat→Bool):Nat→Bool:=fun x=>u x||e.nw.contains x
def St.eff (s:St) (d:Option Tmp) (e:Eff):St:=({ s with m:=e.mem s.m,u:=e.use s.u }:St).put d e.v
def a50_ (E:Env) (o:Oper) (s s':St):Prop:=
 ∀C φ a w,RelAt E C φ s a w→∀(K:Act→World→Prop) (Q:Exit→Act→World→Prop),(∀φ' a' w',RelAt E C φ' s' a' w'→K a' w')→o.wp E.P a w K Q
def Op1 (E:Env) (o:Oper) (s:St) (e:Eff):Prop:=
 ∀s':St,(∀x∈o.op.operands,s'.ev E x=s.ev E x)→(∀l∈e.rd,s'.m l=s.m l)→(∀l∈e.nw,s'.u l=false)→a50_ E o s' (s'.eff o.dst e)
section
variable {E:Env} {C:Cx} {φ φ':Phi} {s:St} {a:Act} {w w':World} {o:Oper} {e:Eff}
theorem RelAt.ev (h:RelAt E C φ s a w) (x:Operand):VR φ (C.S φ s.m) w (s.ev E x) (a.eval x):=by
 cases x with
 |const v=>exact VR.const φ _ w v
 |func f=>simp only[St.ev,Act.eval,VR];exact⟨#[],#[],rfl,.nil,.nil⟩
 |global g=>
  simp only[St.ev,Act.eval]
  cases hg:E.G g with
  |none=>simp only[VR]
  |some cs=>exact(h.glob g cs hg).keep (show KeepsW (fun _=>none) φ _ _ w w from⟨fun l x hh=>(by cases hh),fun g hg _=>⟨hg,rfl⟩,Nat.le_refl _,fun _ _ h=>h⟩)
 |tmp t=>
  simp only[St.ev,Act.eval,List.getD_eq_getElem?_getD]
  cases hv:s.σ[t]? with
  |none=>simp only[Option.getD_none,VR]
  |some v=>
   obtain⟨x,hx,hr⟩:=h.slots.get hv
   rw[Array.getElem?_toList]at hx
   rw[Array.getD_eq_getD_getElem?,hx]
   exact hr
theorem Op1.of (h:∀s':St,(∀x∈o.op.operands,s'.ev E x=s.ev E x)→(∀l∈e.rd,s'.m l=s.m l)→(∀l∈e.nw,s'.u l=false)→∀C φ a w,RelAt E C φ s' a w→
   ∃x w' φ',((execOp a.eval o).run E.P w = .ok (.value x) w'∨((execOp a.eval o).run E.P w = .ok .skip w'∧x=undef))∧RelAt E C φ' ⟨s'.σ,e.mem s'.m,e.use s'.u⟩ a w'∧VR φ' (C.S φ' (e.mem s'.m)) w' e.v x):Op1 E o s e:=by
 intro s' h1 h2 h3 C φ a w hr K Q hK
 obtain⟨x,w',φ',hx,hr',hv⟩:=h s' h1 h2 h3 C φ a w hr
 unfold Oper.wp
 rcases hx with hx|⟨hx,rfl⟩<;>rw[hx]<;>exact hK φ' _ _ (hr'.put o.dst hv)
theorem Eff.mem_nil (v:V) (nw rd:List Nat) (m:Mem):Eff.mem ⟨v,[],nw,rd⟩ m=m:=rfl
theorem Eff.use_nil (v:V) (wr:List (Nat × Option Blk)) (rd:List Nat) (u:Nat→Bool):Eff.use ⟨v,wr,[],rd⟩ u=u:=by funext x;simp[Eff.use]
theorem Op1.pure {v:V} {rd:List Nat} (h:∀s':St,(∀x∈o.op.operands,s'.ev E x=s.ev E x)→(∀l∈rd,s'.m l=s.m l)→∀C φ a w,RelAt E C φ s' a w→
   ∃x,(execOp a.eval o).run E.P w = .ok (.value x) w∧VR φ (C.S φ s'.m) w v x):Op1 E o s { v:=v,rd:=rd }:=
 Op1.of fun s' h1 h2 _ C φ a w hr=>by
  obtain⟨x,hx,hv⟩:=h s' h1 h2 C φ a w hr
  refine⟨x,w,φ,.inl hx,?_,by rw[Eff.mem_nil];exact hv⟩
  rw[Eff.mem_nil,Eff.use_nil];exact hr
def peel:V→V|.gd _ v=>peel v|v=>v
def dg_:V→Bool|.gd c v=>c&&dg_ v|_=>true
theorem VR.peel {S:Nat→Prop}:∀ {v:V} {x:Value},VR φ S w v x→dg_ v=true→VR φ S w (peel v) x
 |.gd c v,x,h,hc=>by
  simp only[dg_,Bool.and_eq_true]at hc
  simp only[VR]at h
  exact VR.peel (v:=v) (h.1 hc.1) hc.2
 |.i _ _,_,h,_|.b _,_,h,_|.s _,_,h,_|.sl _ _,_,h,_|.ow _ _ _ _,_,h,_|.pt _ _ _ _,_,h,_|.rp _,_,h,_|.np,_,h,_|.q _,_,h,_|.fn _ _ _,_,h,_|.ag _,_,h,_|.tu _,_,h,_|.no,_,h,_=>h
end
end
section
open Go.RowKit
def St.pv (E:Env) (s:St) (x:Operand):V:=peel (s.ev E x)
def PC (E:Env) (o:Oper) (s:St):Prop:=∀x∈o.op.operands,dg_ (s.ev E x)=true
section
variable {E:Env} {C:Cx} {φ φ':Phi} {s:St} {a:Act} {w w':World} {o:Oper} {e:Eff} {S:Nat→Prop}
theorem RelAt.pv (h:RelAt E C φ s a w) {x:Operand} (hp:dg_ (s.ev E x)=true):VR φ (C.S φ s.m) w (s.pv E x) (a.eval x):=(h.ev x).peel hp
theorem Op1.pure' {v:V} {rd:List Nat} (hp:PC E o s) (h:∀φ S w (ρ:Operand→Value),(∀x∈o.op.operands,VR φ S w (s.pv E x) (ρ x))→(∀l∈rd,∀b,s.m l=some b→MR φ S w l b)→
  ∃x,(execOp ρ o).run E.P w = .ok (.value x) w∧VR φ S w v x):Op1 E o s { v:=v,rd:=rd }:=
 Op1.pure fun s' h1 h2 C φ a w hr=>h φ _ w a.eval (fun x hx=>by
  have e:=h1 x hx
  have:=hr.pv (x:=x) (by rw[e];exact hp x hx)
  unfold St.pv at this ⊢
  rwa [e]at this) (fun l hl b hb=>hr.mem l b (by rw[h2 l hl];exact hb))
theorem aww_ {x:Operand} (hp:PC E o s) (ho:o.op = .move x):Op1 E o s { v:=s.pv E x }:=
 Op1.pure' hp fun φ S w ρ h _=>⟨ρ x,by simp[execOp,ho],h x (by simp[ho,Op.operands])⟩
theorem ant_ {x:Operand} (hp:PC E o s) (ho:o.op = .assign x):Op1 E o s { v:=s.pv E x }:=
 Op1.pure' hp fun φ S w ρ h _=>⟨ρ x,by simp[execOp,ho],h x (by simp[ho,Op.operands])⟩
theorem axk_ {c x y:Operand} {b p q:Bool} (ho:o.op = .pick c x y) (hcp:dg_ (s.ev E c)=true) (hc:s.pv E c = .b b) (hx:b=true→dg_ (s.ev E x)=true∧s.pv E x = .b p) (hy:b=false→dg_ (s.ev E y)=true∧s.pv E y = .b q) :
  Op1 E o s { v:=.b (bif b then p else q) }:=
 Op1.pure fun s' h1 _ C φ a w hr=>by
  have k:∀z∈o.op.operands,dg_ (s.ev E z)=true→VR φ (C.S φ s'.m) w (s.pv E z) (a.eval z):=fun z hz hp=>by
   have:=hr.pv (x:=z) (by rw[h1 z hz];exact hp)
   unfold St.pv at this ⊢
   rwa [h1 z hz]at this
  have kc:=k c (by simp[ho,Op.operands]) hcp
  rw[hc]at kc;simp only[VR]at kc
  cases b with
  |true=>
   have kx:=k x (by simp[ho,Op.operands]) (hx rfl).1
   rw[(hx rfl).2]at kx;simp only[VR]at kx
   exact⟨.bool p,by simp[execOp,ho,kc,kx,asBool],by simp only[VR,cond]⟩
  |false=>
   have kx:=k y (by simp[ho,Op.operands]) (hy rfl).1
   rw[(hy rfl).2]at kx;simp only[VR]at kx
   exact⟨.bool q,by simp[execOp,ho,kc,kx,asBool],by simp only[VR,cond]⟩
theorem afh_ {x:Operand} (hp:PC E o s) (ho:o.op = .nilCheck x) (hx:(∃l z r c,0<z∧s.pv E x = .pt l z r c)∨∃cs,s.pv E x = .rp cs):Op1 E o s { v:=s.pv E x }:=
 Op1.pure' hp fun φ S w ρ h _=>by
  have hv:=h x (by simp[ho,Op.operands])
  have:∃A,ρ x = .pointer (some A):=by
   rcases hx with⟨l,z,r,c,hz,hx⟩|⟨cs,hx⟩<;>rw[hx]at hv<;>simp only[VR]at hv
   ·obtain⟨g,_,h2⟩:=hv;exact⟨_,h2.trans (dq_ hz)⟩
   obtain⟨g,o,xs,h2,_⟩:=hv;exact⟨_,h2⟩
  obtain⟨A,hA⟩:=this
  exact⟨ρ x,by simp[execOp,ho,hA],hv⟩
/-! numbers, strings, tests: the value, and what it asks -/
def adi_ (op:BinOp) (k:IntKind) (x y:Int):V:=
 match op with
 |.add=>.i k (k.wrap (x+y))
 |.sub=>.i k (k.wrap (x - y))
 |.mul=>.i k (k.wrap (x * y))
 |.quo=>.i k (k.wrap (x.tdiv y))
 |.rem=>.i k (x.tmod y)
 |.xor=>.i k (k.wrap (BitVec.ofInt k.bits x ^^^ BitVec.ofInt k.bits y).toNat)
 |.and=>.i k (k.wrap (BitVec.ofInt k.bits x &&& BitVec.ofInt k.bits y).toNat)
 |.or=>.i k (k.wrap (BitVec.ofInt k.bits x ||| BitVec.ofInt k.bits y).toNat)
 |.eql=>.b (x==y)
 |.neq=>.b (x != y)
 |.lss=>.b (decide (x<y))
 |.leq=>.b (decide (x≤y))
 |.gtr=>.b (decide (x > y))
 |.geq=>.b (decide (x ≥ y))
 |_=>.no
def akq_ (op:BinOp) (y:Int):Prop:=
 match op with
 |.quo|.rem=>y≠0
 |.shl|.shr|.andNot=>False
 |_=>True
def zw_ (op:BinOp) (x y:Str):V:=
 match op with
 |.add=>.s (x++y)
 |.eql=>.b (x==y)
 |.neq=>.b (!(x==y))
 |.lss=>.b (Op.bytesLess x y)
 |_=>.no
def ak5_ (op:BinOp) (x y:Str):Prop:=
 match op with
 |.add=>x.length+y.length≤9223372036854775807
 |.eql|.neq|.lss=>True
 |_=>False
def aa3_ (op:BinOp) (x y:Bool):V:=match op with|.eql=>.b (x==y)|.neq=>.b (!(x==y))|_=>.no
def aa4_ (op:BinOp):Prop:=match op with|.eql|.neq=>True|_=>False
theorem aw6_ {op:BinOp} {k:IntKind} {x y:Int} (h:akq_ op y) (P:Program) (t:TypeId) (w:World) :
  ∃x',(binOp op t (.int k x) (.int k y)).run P w = .ok x' w∧∀φ S,VR φ S w (adi_ op k x y) x':=by
 cases op<;>simp only[akq_]at h
 all_goals first
  |(refine⟨_,by simp only[binOp,ne_eq,not_true_eq_false,if_false,Op.intArith,Op.intCmp,Op.intBits,Sem.run_pure];rfl,?_⟩;intro φ S;simp only[VR,adi_];done)
  |(refine⟨_,by simp only[binOp,ne_eq,not_true_eq_false,if_false,Op.intDiv,h,Sem.run_pure];rfl,?_⟩;intro φ S;simp only[VR,adi_];done)
theorem a1i_ (x y:Str):((⟨x.toArray⟩:ByteArray).toList==(⟨y.toArray⟩:ByteArray).toList)=(x==y):=by
 rw[ByteArray.toList_eq,ByteArray.toList_eq]
theorem ax2_ {op:BinOp} {x y:Str} (h:ak5_ op x y) (P:Program) (t:TypeId) (w:World) :
  ∃x',(binOp op t (.string ⟨x.toArray⟩) (.string ⟨y.toArray⟩)).run P w = .ok x' w∧∀φ S,VR φ S w (zw_ op x y) x':=by
 cases op<;>simp only[ak5_]at h
 all_goals first
  |(refine⟨_,by simp only[binOp,Op.stringOp,a1i_,Sem.run_pure];rfl,?_⟩;intro φ S;simp only[VR,zw_];done)
  |skip
 ·refine⟨.string ((⟨x.toArray⟩:ByteArray)++⟨y.toArray⟩),?_,fun φ S=>?_⟩
  ·simp[binOp,Op.stringOp,ByteArray.size]
   omega
  simp only[VR,zw_]
  congr 1
 refine⟨.bool (Op.bytesLess (⟨x.toArray⟩:ByteArray).toList (⟨y.toArray⟩:ByteArray).toList),by simp only[binOp,Op.stringOp,Sem.run_pure],fun φ S=>?_⟩
 simp only[VR,zw_,ByteArray.toList_eq]
theorem vs_ {P:Program} {t:TypeId} (ht:P.underlying t=some .bool) (x y:Bool) (w:World):(Op.equal t (.bool x) (.bool y)).run P w = .ok (x==y) w:=by
 have e:Op.maxDepth=9999+1:=rfl
 rw[Op.equal,e,Op.equalIn]
 simp only[Sem.run_bind,run_underlying ht,Result.andThen_ok,Sem.run_pure]
theorem atm_ {op:BinOp} {x y:Bool} (h:aa4_ op) (P:Program) (t:TypeId) (ht:P.underlying t=some .bool) (w:World) :
  ∃x',(binOp op t (.bool x) (.bool y)).run P w = .ok x' w∧∀φ S,VR φ S w (aa3_ op x y) x':=by
 cases op<;>simp only[aa4_]at h
 all_goals(refine⟨_,by simp only[binOp,Sem.run_bind,vs_ ht,Result.andThen_ok,Sem.run_pure];rfl,?_⟩;intro φ S;simp only[VR,aa3_];done)
theorem ao0_ {P:Program} {t:TypeId} (h:(ax_ P t).map (·.k)=some .bool):P.underlying t=some .bool:=by
 cases ht:ax_ P t with
 |none=>simp[ht]at h
 |some ti=>
  simp[ht]at h
  obtain⟨i,d,h1,h2,h3,h4,h5⟩:=f6_ ht
  rw[h]at h3
  cases d<;>simp[j3_]at h3
  exact h2
def af0_ (op:BinOp) (x y:V):V:=
 match x,y with
 |.i k p,.i _ q=>adi_ op k p q
 |.s p,.s q=>zw_ op p q
 |.b p,.b q=>aa3_ op p q
 |_,_=>.no
def al6_ (P:Program) (op:BinOp) (t:TypeId) (x y:V):Prop:=
 match x,y with
 |.i k _,.i k' q=>k=k'∧akq_ op q
 |.s p,.s q=>ak5_ op p q
 |.b _,.b _=>(ax_ P t).map (·.k)=some .bool∧aa4_ op
 |_,_=>False
theorem j5_ (op:BinOp) (t:TypeId) (x y:Operand) (a b:Value) (P:Program) (w:World) (h1:∀c,a≠.agg c) (h2:a≠.nilIface):(eqGuard op t x y a b).run P w = .ok () w:=by
 cases a<;>first|(exact absurd rfl h2)|(exact absurd rfl (h1 _))|(cases op<;>rfl)
theorem a00_ {op:BinOp} {t t':TypeId} {x y:Operand} (hp:PC E o s) (ho:o.op = .binOp op t x y t') (h:al6_ E.P op t (s.pv E x) (s.pv E y)):Op1 E o s { v:=af0_ op (s.pv E x) (s.pv E y) }:=by
 refine Op1.pure' hp fun φ S w ρ hr _=>?_
 have h1:=hr x (by simp[ho,Op.operands])
 have h2:=hr y (by simp[ho,Op.operands])
 generalize s.pv E x=vx at *
 generalize s.pv E y=vy at *
 have go:(∀c,ρ x≠.agg c)→ρ x≠.nilIface→(∃x',(binOp op t (ρ x) (ρ y)).run E.P w = .ok x' w∧VR φ S w (af0_ op vx vy) x')→∃x',(execOp ρ o).run E.P w = .ok (.value x') w∧VR φ S w (af0_ op vx vy) x':=fun g1 g2 ⟨x',g3,g4⟩=>
  ⟨x',by simp[execOp,ho,j5_ op t x y _ _ E.P w g1 g2,g3],g4⟩
 cases vx<;>cases vy<;>simp only[al6_]at h
 case i.i k p k' q=>
  obtain⟨rfl,h⟩:=h
  simp only[VR]at h1 h2
  obtain⟨x',r1,r2⟩:=aw6_ (k:=k) (x:=p) h E.P t w
  exact go (by rw[h1];intro c;simp) (by rw[h1];simp) ⟨x',by rw[h1,h2];exact r1,r2 φ S⟩
 case s.s p q=>
  simp only[VR]at h1 h2
  obtain⟨x',r1,r2⟩:=ax2_ h E.P t w
  exact go (by rw[h1];intro c;simp) (by rw[h1];simp) ⟨x',by rw[h1,h2];exact r1,r2 φ S⟩
 case b.b p q=>
  simp only[VR]at h1 h2
  obtain⟨x',r1,r2⟩:=atm_ (x:=p) (y:=q) h.2 E.P t (ao0_ h.1) w
  exact go (by rw[h1];intro c;simp) (by rw[h1];simp) ⟨x',by rw[h1,h2];exact r1,r2 φ S⟩
def aunV (op:UnOp) (x:V):V:=
 match op,x with
 |.not,.b p=>.b (!p)
 |.neg,.i k n=>.i k (k.wrap (0 - n))
 |_,_=>.no
def aunC (op:UnOp) (x:V):Prop:=
 match op,x with
 |.not,.b _=>True
 |.neg,.i _ _=>True
 |_,_=>False
theorem a6n_ {op:UnOp} {t:TypeId} {x:Operand} (hp:PC E o s) (ho:o.op = .unOp op t x) (h:aunC op (s.pv E x)):Op1 E o s { v:=aunV op (s.pv E x) }:=by
 refine Op1.pure' hp fun φ S w ρ hr _=>?_
 have h1:=hr x (by simp[ho,Op.operands])
 generalize s.pv E x=vx at *
 cases op<;>cases vx<;>simp only[aunC]at h
 ·simp only[VR]at h1
  exact⟨_,by simp only[execOp,ho,h1,Op.unary,Op.intArith,Sem.run_bind,Sem.run_pure,Result.andThen_ok];rfl,by simp only[VR,aunV]⟩
 simp only[VR]at h1
 exact⟨_,by simp only[execOp,ho,h1,Op.unary,Sem.run_bind,Sem.run_pure,Result.andThen_ok];rfl,by simp only[VR,aunV]⟩
end
end
section
open Go.RowKit
theorem age_ {α β:Type} (P:Program) (w:World) (g:α→Sem β) (f:α→β):∀l:List α,(∀x∈l,(g x).run P w = .ok (f x) w)→(l.mapM g).run P w = .ok (l.map f) w
 |[],_=>rfl
 |x::r,h=>by
  rw[List.mapM_cons]
  simp only[Sem.run_bind,h x (by simp),Result.andThen_ok,age_ P w g f r (fun y hy=>h y (by simp[hy])),Sem.run_pure,List.map_cons]
theorem ao4_ {α β:Type} (P:Program) (w:World) (g:α→Sem β) (f:α→β) (l:Array α) (h:∀x∈l.toList,(g x).run P w = .ok (f x) w):(l.mapM g).run P w = .ok (l.map f) w:=by
 rw[Array.mapM_eq_mapM_toList]
 simp only[Sem.run_map,age_ P w g f l.toList h,Result.andThen_ok]
 congr 1
 apply Array.ext'
 simp
def gz_ {α:Type} (p:Nat) (vs xs:List α):List α:=xs.take p++vs++xs.drop (p+vs.length)
theorem vl_ {α:Type} {p:Nat} {vs xs:List α} (h:p+vs.length≤xs.length):(gz_ p vs xs).length=xs.length:=by
 simp[gz_];omega
theorem se_ {α:Type} {p:Nat} {vs ys:List α} (h:p+vs.length≤ys.length) (zs:List α):gz_ p vs (ys++zs)=gz_ p vs ys++zs:=by
 unfold gz_
 rw[List.take_append_of_le_length (by omega),List.drop_append_of_le_length (by omega)]
 simp[List.append_assoc]
theorem avb_ {α:Type} {p n:Nat} {vs ys:List α} (h:ys.length=n) (zs:List α):gz_ (n+p) vs (ys++zs)=ys++gz_ p vs zs:=by
 subst h
 unfold gz_
 rw[List.take_length_add_append,Nat.add_assoc,List.drop_length_add_append]
 simp[List.append_assoc]
section
variable {E:Env} {C:Cx} {φ φ':Phi} {s:St} {a:Act} {w w':World} {o:Oper} {e:Eff} {S:Nat→Prop}
theorem VRs.put {row cs:List V} {ys vs:List Value} (h:VRs φ S w row ys) (k:VRs φ S w cs vs) (p:Nat):VRs φ S w (gz_ p cs row) (gz_ p vs ys):=by
 unfold gz_
 rw[k.len]
 exact((h.take p).append k).append (h.drop _)
theorem VRr.put {z:Nat} {cs:List V} {vs:List Value} (k:VRs φ S w cs vs) (k1:∀u∈vs,u.oneCell'=true) {c:Nat} (hc:c+cs.length≤z) :
  ∀ {rows:List (List V)} {xs:List Value},VRr φ S w z rows xs→∀r,r<rows.length→VRr φ S w z (rows.set r (gz_ c cs (rows.getD r []))) (gz_ (r * z+c) vs xs)
 |[],_,_,r,hr=>absurd hr (by simp)
 |q::rows,xs,h,r,hr=>by
  simp only[VRr]at h
  obtain⟨ys,zs,rfl,h2,h3,h0,h4⟩:=h
  have hl:ys.length=z:=h3.len.trans h2
  cases r with
  |zero=>
   simp only[List.set_cons_zero,List.getD_cons_zero,Nat.zero_mul,Nat.zero_add]
   rw[se_ (by rw[hl,k.len];exact hc)]
   exact .cons (by rw[vl_ (by omega)];exact h2) (h3.put k c) (fun u hu=>by
    unfold gz_ at hu
    rcases List.mem_append.1 hu with hu|hu
    ·rcases List.mem_append.1 hu with hu|hu
     ·exact h0 u (List.mem_of_mem_take hu)
     exact k1 u hu
    exact h0 u (List.mem_of_mem_drop hu)) h4
  |succ r=>
   simp only[List.set_cons_succ,List.getD_cons_succ]
   rw[show(r+1) * z+c=z+(r * z+c) by rw[Nat.add_mul];omega,avb_ hl]
   exact .cons h2 h3 h0 (VRr.put k k1 hc h4 r (by simpa using hr))
theorem VRr.getRow {z:Nat} {rows:List (List V)} {xs:List Value} (h:VRr φ S w z rows xs) {r:Nat} (hr:r<rows.length) :
  (rows.getD r []).length=z∧VRs φ S w (rows.getD r []) ((xs.drop (r * z)).take z):=by
 have e:rows[r]? = some (rows.getD r []):=by rw[List.getD_eq_getElem?_getD,List.getElem?_eq_getElem hr];rfl
 exact h.row e
/-! fields and elements -/
def fldV (off:Nat):V→V
 |.pt l z r c=>.pt l z r (c+off)
 |.rp cs=>.rp (cs.drop off)
 |_=>.no
def fldC:V→Prop
 |.pt _ z _ _=>0<z
 |.rp _=>True
 |_=>False
theorem Addr.add_spot (g p n:Nat):(⟨g,p,none⟩:Addr).add n=⟨g,p+n,none⟩:=by unfold Addr.add;split<;>simp_all
theorem aaw_ {t:TypeId} {f:Nat} {x:Operand} {fs:List (Nat × Nat × Bool)} {off size:Nat} {ag:Bool} (hp:PC E o s) (ho:o.op = .fieldAddr t x f) (ht:(ax_ E.P t).map (·.k)=some (.st fs)) (hf:fs[f]? = some (off,size,ag)) (hs:0<size) (h:fldC (s.pv E x)) :
  Op1 E o s { v:=fldV off (s.pv E x) }:=by
 refine Op1.pure' hp fun φ S w ρ hr _=>?_
 have h1:=hr x (by simp[ho,Op.operands])
 generalize s.pv E x=vx at *
 cases hti:ax_ E.P t with
 |none=>simp[hti]at ht
 |some ti=>
  simp[hti]at ht
  obtain⟨gs,hu,e⟩:=al1_ hti ht
  subst e
  rw[List.getElem?_map]at hf
  cases hg:gs.toList[f]? with
  |none=>simp[hg]at hf
  |some fl=>
   simp[hg]at hf
   obtain⟨rfl,hsz,_⟩:=hf
   have hg':gs[f]? = some fl:=by rw[←hg,Array.getElem?_toList]
   have hso:=ce_ (P:=E.P) w hsz hs
   have run:∀g p,ρ x = .pointer (some ⟨g,p,none⟩)→(execOp ρ o).run E.P w = .ok (.value (.pointer (some ⟨g,p+fl.offset,none⟩))) w:=fun g p hx=>by
    simp[execOp,ho,hx,Instr.fieldAt,run_underlying hu,hg',Instr.sureAddr,fieldPlace,hso,Nat.pos_iff_ne_zero.1 hs,Addr.add_spot]
   cases vx<;>simp only[fldC]at h<;>simp only[VR]at h1
   ·obtain⟨g,h2,h3⟩:=h1
    rw[dq_ h]at h3
    exact⟨_,run _ _ h3,by simp only[fldV,VR];exact⟨g,h2,by rw[dq_ h,Nat.add_assoc]⟩⟩
   obtain⟨g,p,xs,h2,h3,h4,h5,h6⟩:=h1
   refine⟨_,run _ _ h2,?_⟩
   simp only[fldV,VR]
   refine⟨g,p+fl.offset,xs.drop fl.offset,rfl,h3,h4,fun j u hu=>?_,h6.drop _⟩
   rw[List.getElem?_drop]at hu
   rw[Nat.add_assoc]
   exact h5 _ _ hu
def ixaV (z:Nat) (x i:V):V:=
 match x,i with
 |.sl _ rows,.i _ n=>.rp (rows.getD n.toNat [])
 |.ow l _ p _,.i _ n=>.pt l z (p+n.toNat) 0
 |_,_=>.no
def ixaC (z:Nat) (x i:V):Prop:=
 match x,i with
 |.sl _ rows,.i _ n=>0≤n∧n<rows.length∧(rows.getD n.toNat []).length=z
 |.ow _ z' _ m,.i _ n=>z'=z∧0≤n∧n<m
 |_,_=>False
theorem aa2_ {t:TypeId} {x i:Operand} {el z y:Nat} {zero:List V} (hp:PC E o s) (ho:o.op = .indexAddr t x i) (ht:(ax_ E.P t).map (·.k)=some (.sl el z y zero)) (hz:0<z) (h:ixaC z (s.pv E x) (s.pv E i)) :
  Op1 E o s { v:=ixaV z (s.pv E x) (s.pv E i) }:=by
 refine Op1.pure' hp fun φ S w ρ hr _=>?_
 have h1:=hr x (by simp[ho,Op.operands])
 have h2:=hr i (by simp[ho,Op.operands])
 generalize s.pv E x=vx at *
 generalize s.pv E i=vi at *
 cases hti:ax_ E.P t with
 |none=>simp[hti]at ht
 |some ti=>
  simp[hti]at ht
  obtain⟨hu,hz',_⟩:=tn_ hti ht
  have hso:=ce_ (P:=E.P) w hz'.symm hz
  have run:∀g p m c (k:IntKind) (n:Int),ρ x = .slice (some ⟨g,p,none⟩) m c→ρ i = .int k n→0≤n→n<m→(execOp ρ o).run E.P w = .ok (.value (.pointer (some ⟨g,p+n.toNat * z,none⟩))) w:=fun g p m c k n hx hi h0 hm=>by
   simp[execOp,ho,hx,hi,Instr.indexAt,asIntOf,run_underlying hu,h0,hm,hso,Addr.add_spot]
  cases vx<;>simp only[ixaC]at h<;>cases vi<;>simp only[]at h<;>simp only[VR]at h1 h2
  case sl.i t' rows k n=>
   obtain⟨h0,hn,hl⟩:=h
   obtain⟨A,c,z',xs,e1,e2,e3,e4,e5,e6⟩:=h1
   have hlt:n.toNat<rows.length:=by omega
   obtain⟨g1,g2⟩:=e6.getRow hlt
   obtain rfl:z'=z:=g1.symm.trans hl
   have hne:xs≠[]:=fun e=>by
    have:=e6.len;rw[e]at this
    have hpos:0<rows.length * z':=Nat.mul_pos (by omega) hz
    simp only[List.length_nil]at this
    omega
   obtain⟨g,p,rfl,f2,f3,f4⟩:=e5 hne
   refine⟨_,run g p rows.length c k n e1 h2 h0 hn,?_⟩
   simp only[ixaV,VR]
   refine⟨g,p+n.toNat * z',(xs.drop (n.toNat * z')).take z',rfl,f2,f3,fun j u hu=>?_,g2⟩
   rw[List.getElem?_take]at hu
   split at hu
   ·rw[List.getElem?_drop]at hu
    rw[Nat.add_assoc];exact f4 _ _ hu
   cases hu
  case ow.i l z' p m k n=>
   obtain⟨rfl,h0,hn⟩:=h
   obtain⟨A,c,e1,e2,e3,e4⟩:=h1
   rcases e4 with e4|⟨g,T,mm,e4,e5,_⟩
   ·omega
   subst e5
   refine⟨_,run g (p * z') m c k n e1 h2 h0 hn,?_⟩
   simp only[ixaV,VR]
   exact⟨g,e4,by rw[dq_ hz,Nat.add_mul];simp⟩
/-! loads and stores -/
def rg_ (ag:Bool) (n:Nat) (cs:List V):V:=bif ag then .ag (cs.take n)else cs.getD 0 .no
def ldV (ag:Bool) (n:Nat) (m:Mem) (x:V):V:=
 match x with
 |.pt l _ r c=>match m l with|some b=>rg_ ag n ((b.rows.getD r []).drop c)|none=>.no
 |.rp cs=>rg_ ag n cs
 |_=>.no
def ldC (n:Nat) (m:Mem) (x:V):Prop:=
 match x with
 |.pt l z r c=>match m l with|some b=>b.z=z∧r<b.rows.length∧c+n≤z∧0<z|none=>False
 |.rp cs=>n≤cs.length
 |_=>False
def cc_:V→List Nat
 |.pt l _ _ _|.ow l _ _ _=>[l]
 |_=>[]
theorem ex_ {P:Program} {t:TypeId} {ti:TI} (ht:ax_ P t=some ti) (hn:ti.k.agg=false→ti.size=1) {g p:Nat} {vs:List V} {ys:List Value} (hl:ti.size≤vs.length) (hv:VRs φ S w vs ys) (hc:∀j u,ys[j]? = some u→w.cell? ⟨g,p+j,none⟩=some u) :
  ∃x,(loadVar t ⟨g,p,none⟩).run P w = .ok x w∧VR φ S w (rg_ ti.k.agg ti.size vs) x:=by
 unfold loadVar
 simp only[Sem.run_bind,aod_ w ht,Result.andThen_ok]
 cases hag:ti.k.agg with
 |true=>
  have hlen:(ys.take ti.size).length=ti.size:=by rw[List.length_take,hv.len];omega
  have:=run_loadCells_list (P:=P) w ⟨g,p,none⟩ (ys.take ti.size) (fun j v hj=>by
   rw[Addr.add_spot]
   rw[List.getElem?_take]at hj
   split at hj
   ·exact hc _ _ hj
   cases hj)
  rw[hlen]at this
  refine⟨.agg (ys.take ti.size).toArray,by simp[su_ w ht,this],?_⟩
  simp only[rg_,cond,VR]
  exact⟨_,rfl,by simpa using hv.take ti.size⟩
 |false=>
  have h1:=hn hag
  cases vs with
  |nil=>simp at hl;omega
  |cons v vs=>
   simp only[VRs]at hv
   obtain⟨x,r,rfl,h2,h3⟩:=hv
   have:=hc 0 x (by simp)
   simp only[Nat.add_zero]at this
   exact⟨x,by simp[this],by simpa[rg_]using h2⟩
theorem ayu_ {t:TypeId} {x:Operand} {ti:TI} (hp:PC E o s) (ho:o.op = .load t x) (ht:ax_ E.P t=some ti) (hn:ti.k.agg=false→ti.size=1) (h:ldC ti.size s.m (s.pv E x)) :
  Op1 E o s { v:=ldV ti.k.agg ti.size s.m (s.pv E x),rd:=cc_ (s.pv E x) }:=by
 refine Op1.pure' hp fun φ S w ρ hr hm=>?_
 have h1:=hr x (by simp[ho,Op.operands])
 generalize s.pv E x=vx at *
 cases vx<;>simp only[ldC]at h<;>simp only[VR]at h1
 case pt l z r c=>
  cases hb:s.m l with
  |none=>simp[hb]at h
  |some b=>
   simp only[hb]at h
   obtain⟨rfl,h3,h4,hz⟩:=h
   obtain⟨g,g1,g2⟩:=h1
   rw[dq_ hz]at g2
   rcases hm l (by simp[cc_]) b hb with⟨k1,_⟩|⟨g',arr,xs,k1,k2,k3,k4,hzz⟩|⟨_,_,_,_,_,_,k1,_⟩
   ·rw[g1]at k1;cases k1
   ·rw[g1]at k1;cases k1
    obtain⟨q1,q2⟩:=k3.getRow h3
    obtain⟨y,e1,e2⟩:=ex_ (g:=g) (p:=r * b.z+c) ht hn (by rw[List.length_drop,q1];omega) (q2.drop c) (fun j u hu=>by
     rw[cell_of_row w g _ arr _ _ k2]
     rw[List.getElem?_drop,List.getElem?_take]at hu
     split at hu
     ·rw[List.getElem?_drop,←k4,List.getElem?_take]at hu
      split at hu
      ·rw[Array.getElem?_toList]at hu;rw[←hu,Nat.add_assoc]
      cases hu
     cases hu)
    refine⟨y,by simp[execOp,ho,g2,Instr.loadAt,Instr.sureAddr,e1],?_⟩
    simp only[ldV,hb];exact e2
   omega
 case rp cs=>
  obtain⟨g,p,xs,g1,g2,g3,g4,g5⟩:=h1
  obtain⟨y,e1,e2⟩:=ex_ (g:=g) (p:=p) ht hn h g5 g4
  refine⟨y,by simp[execOp,ho,g1,Instr.loadAt,Instr.sureAddr,e1],?_⟩
  simp only[ldV];exact e2
def stV (m:Mem) (x v:V):Eff:=
 match x with
 |.pt l _ r c=>match m l with|some b=>{ v:=.no,wr:=[(l,some { b with rows:=b.rows.set r (gz_ c v.cells (b.rows.getD r [])) })],rd:=[l] }|none=>{ v:=.no }
 |_=>{ v:=.no }
def okC (v:V):Bool:=match v with|.ag cs=>cs.all V.one|v=>v.one
def stC (n:Nat) (m:Mem) (x v:V):Prop:=
 match x with
 |.pt l z r c=>match m l with|some b=>b.z=z∧r<b.rows.length∧c+n≤z∧v.cells.length=n∧okC v=true∧0<z|none=>False
 |_=>False
theorem okC.cells {v:V} (h:okC v=true) {x:Value} (hv:VR φ S w v x):VRs φ S w v.cells x.cells.toList∧∀u∈x.cells.toList,u.oneCell'=true:=by
 have h1:v.one=true∨∃cs,v = .ag cs:=by cases v<;>first|(exact .inr ⟨_,rfl⟩)|(exact .inl h)
 have hc:=hv.cells h1
 refine⟨hc,?_⟩
 have h2:∀u∈v.cells,u.one=true:=by
  cases v<;>first|(simpa[okC,V.cells,List.all_eq_true]using h)|(intro u hu;simp[V.cells]at hu;subst hu;exact h)
 revert hc h2
 generalize v.cells=vs
 generalize x.cells.toList=xs
 intro hc h2
 induction vs generalizing xs with
 |nil=>simp only[VRs]at hc;subst hc;intro u hu;cases hu
 |cons v vs ih=>
  simp only[VRs]at hc
  obtain⟨x,r,rfl,h3,h4⟩:=hc
  intro u hu
  rcases List.mem_cons.1 hu with rfl|hu
  ·exact h3.oneCell (h2 v (by simp))
  exact ih _ h4 (fun u hu=>h2 u (by simp[hu])) u hu
theorem ap1_ {t:TypeId} {x y:Operand} {ti:TI} (hp:PC E o s) (ho:o.op = .store t x y) (ht:ax_ E.P t=some ti) (h:stC ti.size s.m (s.pv E x) (s.pv E y)) :
  Op1 E o s (stV s.m (s.pv E x) (s.pv E y)):=by
 have hpx:=hp x (by simp[ho,Op.operands])
 have hpy:=hp y (by simp[ho,Op.operands])
 refine Op1.of fun s' e1 e2 e3 C φ a w hr=>?_
 have h1:=hr.pv (x:=x) (by rw[e1 x (by simp[ho,Op.operands])];exact hpx)
 have h2:=hr.pv (x:=y) (by rw[e1 y (by simp[ho,Op.operands])];exact hpy)
 have e1x:s'.pv E x=s.pv E x:=by unfold St.pv;rw[e1 x (by simp[ho,Op.operands])]
 have e1y:s'.pv E y=s.pv E y:=by unfold St.pv;rw[e1 y (by simp[ho,Op.operands])]
 rw[e1x]at h1;rw[e1y]at h2
 clear e1 e1x e1y hpx hpy e3
 generalize s.pv E x=vx at *
 generalize s.pv E y=vy at *
 cases vx<;>simp only[stC]at h
 rename_i l z r c
 cases hb:s.m l with
 |none=>simp[hb]at h
 |some b=>
  simp only[hb]at h
  obtain⟨rfl,k1,k2,k3,k4,hz⟩:=h
  simp only[VR]at h1
  obtain⟨g,g1,g2⟩:=h1
  rw[dq_ hz]at g2
  have hb':s'.m l=some b:=by rw[e2 l (by simp[stV,hb])];exact hb
  obtain⟨vc,v1⟩:=okC.cells k4 h2
  have hvl:(a.eval y).cells.toList.length=ti.size:=vc.len.trans k3
  rcases hr.mem l b hb' with⟨m1,_⟩|⟨g',arr,xs,m1,m2,m3,m4,hzz⟩|⟨_,_,_,_,_,_,m1,_⟩
  ·rw[g1]at m1;cases m1
  ·rw[g1]at m1;cases m1
   have hxl:xs.length≤arr.size:=by have:=congrArg List.length m4;rw[List.length_take]at this;have h2:arr.toList.length=arr.size:=(by simp);omega
   have hx:=m3.len
   have hle:(r+1) * b.z≤xs.length:=by rw[hx];exact Nat.mul_le_mul_right _ k1
   rw[Nat.add_mul,Nat.one_mul]at hle
   have hst:=run_storeCells_at E.P g (r * b.z+c) b.T (a.eval y).cells.toList 0 arr w m2 (by rw[hvl];omega) v1
   simp only[Nat.add_zero]at hst
   have hw:=hr.write (w':=w.setRow g (arr.toList.take (r * b.z+c)++(a.eval y).cells.toList++arr.toList.drop (r * b.z+c+(a.eval y).cells.toList.length)).toArray) hb' g1
    (rows:=b.rows.set r (gz_ c vy.cells (b.rows.getD r []))) (xs:=gz_ (r * b.z+c) (a.eval y).cells.toList xs) (arr':=(gz_ (r * b.z+c) (a.eval y).cells.toList arr.toList).toArray) m2 rfl (by simp[vl_ (show r * b.z+c+(a.eval y).cells.toList.length≤arr.toList.length by rw[hvl];simp;omega)])
    (setRow_heap w g arr _ b.T (0,0) m2) (fun k hk=>setRow_other w g k _ hk) (by simp[World.setRow]) ⟨rfl,rfl,rfl⟩ (m3.put vc v1 (by rw[k3];exact k2) r k1) (by
     have hpl:(gz_ (r * b.z+c) (a.eval y).cells.toList xs).length=xs.length:=vl_ (by rw[hvl];omega)
     rw[hpl]
     have hsplit:arr.toList=xs++arr.toList.drop xs.length:=by
      have hh:=(List.take_append_drop xs.length arr.toList).symm;rw[m4]at hh;exact hh
     show List.take xs.length (gz_ (r * b.z+c) (a.eval y).cells.toList arr.toList)=_
     rw[hsplit,se_ (by rw[hvl];omega),List.take_append_of_le_length (by rw[hpl];exact Nat.le_refl _),List.take_of_length_le (by rw[hpl];exact Nat.le_refl _)])
   have hvs:(a.eval y).cells.size=ti.size:=by simpa using hvl
   have hrun:(execOp a.eval o).run E.P w = .ok .skip (w.setRow g (arr.toList.take (r * b.z+c)++(a.eval y).cells.toList++arr.toList.drop (r * b.z+c+(a.eval y).cells.toList.length)).toArray):=by
    simp[execOp,ho,g2,Instr.storeAt,Instr.sureAddr,storeVar,su_ w ht,hvs,hst]
   refine⟨undef,_,φ,.inr ⟨hrun,rfl⟩,?_,?_⟩
   ·have q1:(stV s.m (V.pt l b.z r c) vy).mem s'.m=upd s'.m l (some { b with rows:=b.rows.set r (gz_ c vy.cells (b.rows.getD r [])) }):=by simp[stV,hb,Eff.mem]
    have q2:(stV s.m (V.pt l b.z r c) vy).use s'.u=s'.u:=by funext y;simp[stV,hb,Eff.use]
    rw[q1,q2]
    exact hw
   simp[stV,hb,VR]
  omega
end
end
section
open Go.RowKit
theorem za_ (off:Nat) (vs:Array Value) (cs:Array Value) (h:off+vs.size≤cs.size):vs.zipIdx.foldl (fun cs (x:Value × Nat)=>cs.setIfInBounds (off+x.2) x.1) cs=(gz_ off vs.toList cs.toList).toArray:=by
 obtain⟨h1,h2⟩:=Great.foldl_set off vs.toList 0 cs
 rw[←Array.foldl_toList,Array.toList_zipIdx]
 apply Array.ext'
 apply List.ext_getElem?
 intro k
 rw[Array.getElem?_toList,h2 k]
 unfold gz_
 simp only[Nat.add_zero,Array.length_toList]
 by_cases h3:off≤k∧k<off+vs.size∧k<cs.size
 ·rw[if_pos h3,List.append_assoc,List.getElem?_append_right (by simp;omega),List.getElem?_append_left (by simp;omega)]
  simp
  congr 1
  omega
 rw[if_neg h3]
 by_cases h4:k<off
 ·rw[List.append_assoc,List.getElem?_append_left (by simp;omega),List.getElem?_take_of_lt h4,Array.getElem?_toList]
 by_cases h5:k<cs.size
 ·rw[List.getElem?_append_right (by simp;omega),List.getElem?_drop]
  simp
  congr 1
  omega
 rw[Array.getElem?_eq_none (by omega),List.getElem?_eq_none (by simp;omega)]
def isC (v:V):Bool:=match v with|.ag _=>true|v=>v.one
section
variable {E:Env} {C:Cx} {φ φ':Phi} {s:St} {a:Act} {w w':World} {o:Oper} {e:Eff} {S:Nat→Prop}
theorem isC.cells {v:V} (h:isC v=true) {x:Value} (hv:VR φ S w v x):VRs φ S w v.cells x.cells.toList:=
 hv.cells (by cases v<;>first|(exact .inr ⟨_,rfl⟩)|(exact .inl h))
/-! a struct that is built -/
def s2_ (fs:List (Nat × Nat × Bool)) (cells:List V):List (Nat × V)→Option (List V)
 |[]=>some cells
 |(i,v)::r=>
  match fs[i]? with
  |some (off,size,_)=>if v.cells.length=size∧isC v=true∧off+size≤cells.length then s2_ fs (gz_ off v.cells cells) r else none
  |none=>none
def hp_ (E:Env) (s:St) (ps:Array (Nat × Operand)):List (Nat × V):=ps.toList.map fun p=>(p.1,s.pv E p.2)
theorem aen_ {fs:List (Nat × Nat × Bool)} {place:Nat→Option (Nat × Nat)} (hp:∀(i:Nat) f,fs[i]? = some f→place i=some (f.1,f.2.1)) (ρ:Operand→Value) (pv:Operand→V) :
  ∀(ps:List (Nat × Operand)),(∀p∈ps,VR φ S w (pv p.2) (ρ p.2))→∀(cells cs:List V) (xs:Array Value),VRs φ S w cells xs.toList→s2_ fs cells (ps.map fun p=>(p.1,pv p.2))=some cs→
   ∃ys,Instr.fill place xs (ps.map fun p=>(p.1,ρ p.2))=some ys∧VRs φ S w cs ys.toList
 |[],_,cells,cs,xs,hc,hf=>by simp[s2_]at hf;subst hf;exact⟨xs,rfl,hc⟩
 |(i,x)::ps,h,cells,cs,xs,hc,hf=>by
  simp only[List.map_cons,s2_]at hf
  cases hi:fs[i]? with
  |none=>simp[hi]at hf
  |some f=>
   obtain⟨off,size,ag⟩:=f
   simp only[hi]at hf
   split at hf
   ·rename_i hh
    obtain⟨h1,h2,h3⟩:=hh
    have hv:=isC.cells h2 (h (i,x) (by simp))
    have hl:(ρ x).cells.size=size:=by rw[←h1,←hv.len];simp
    have hxl:cells.length=xs.size:=by rw[←hc.len];simp
    simp only[List.map_cons,Instr.fill,hp i _ hi]
    rw[if_neg (by simp;omega),za_ off _ xs (by omega)]
    exact aen_ hp ρ pv ps (fun p hp=>h p (by simp[hp])) _ cs _ (by simpa using hc.put hv off) hf
   cases hf
theorem abb_ (v:Value):(V.ofConst1 v).cells=[V.ofConst1 v]:=by unfold V.ofConst1;split<;>rfl
theorem VR.constCells (φ:Phi) (S:Nat→Prop) (w:World) (v:Value):VRs φ S w (V.ofConst v).cells v.cells.toList:=by
 cases v with
 |agg cs=>simpa[V.ofConst,V.cells,Value.cells]using VRs.const φ S w cs.toList
 |_=>
  simp only[V.ofConst,abb_]
  exact .cons (VR.const1 φ S w _) .nil
def c7_ (fs:List (Nat × Nat × Bool)):Bool:=fs.all fun f=>decide (0<f.2.1)
theorem c9_ {P:Program} {t:TypeId} {n:Nat} {cs:List V} (hz:(aq_ P t).cells=cs) (hn:cs.length=n) (h1:V.no ∉ cs):∃i z,P.info? t=some i∧i.zero=some z∧VRs φ S w cs z.cells.toList∧z.cells.size=n:=by
 unfold aq_ at hz
 cases hi:P.info? t with
 |none=>simp[hi,V.cells]at hz;subst hz;simp at h1
 |some i=>
  simp only[hi,Option.bind_some]at hz
  cases hzz:i.zero with
  |none=>simp[hzz,V.cells]at hz;subst hz;simp at h1
  |some z=>
   simp only[hzz]at hz
   have:=VR.constCells φ S w z
   rw[hz]at this
   exact⟨i,z,rfl,hzz,this,by rw[←Array.length_toList,this.len,hn]⟩
theorem asc_ {t:TypeId} {ps:Array (Nat × Operand)} {fs:List (Nat × Nat × Bool)} {zc cs:List V} (hp:PC E o s) (ho:o.op = .build t ps) (ht:(ax_ E.P t).map (·.k)=some (.st fs)) (hfs:c7_ fs=true) (hz:(aq_ E.P t).cells=zc) (h1:V.no ∉ zc)
  (hf:s2_ fs zc (hp_ E s ps)=some cs):Op1 E o s { v:=.ag cs }:=by
 refine Op1.pure' hp fun φ S w ρ hr _=>?_
 cases hti:ax_ E.P t with
 |none=>simp[hti]at ht
 |some ti=>
  simp[hti]at ht
  obtain⟨gs,hu,e⟩:=al1_ hti ht
  obtain⟨i,z,hi,hiz,hzv,hzn⟩:=c9_ (φ:=φ) (S:=S) (w:=w) hz rfl h1
  have hm:=ao4_ E.P w (fun f:Field=>Prod.mk f.offset <$> sizeOf f.type) (fun f=>(f.offset,E.P.cellsOf f.type)) gs (fun f hf=>by
   have:0<E.P.cellsOf f.type:=by
    have:=List.all_eq_true.1 hfs (f.offset,E.P.cellsOf f.type,aqc_ E.P f.type) (by rw[e];exact List.mem_map.2 ⟨f,hf,rfl⟩)
    simpa using this
   simp[ce_ w rfl this])
  obtain⟨ys,y1,y2⟩:=aen_ (w:=w) (φ:=φ) (S:=S) (place:=((gs.map fun f=>(f.offset,E.P.cellsOf f.type))[·]?)) (fs:=fs) (fun i f hf=>by
   rw[e,List.getElem?_map]at hf
   cases hg:gs.toList[i]? with
   |none=>simp[hg]at hf
   |some g=>
    simp[hg]at hf
    subst hf
    rw[Array.getElem?_toList]at hg
    simp[hg]) ρ (s.pv E) ps.toList (fun p hp=>hr p.2 (by simp[ho,Op.operands];exact⟨p.1,Array.mem_toList_iff.1 hp⟩)) zc cs z.cells hzv hf
  refine⟨.agg ys,?_,by simp only[VR];exact⟨ys,rfl,y2⟩⟩
  have e1:(ps.map fun(i,x)=>(i,ρ x)).toList=ps.toList.map fun p=>(p.1,ρ p.2):=by simp
  simp[execOp,ho,Instr.build,zeroValue,typeInfo,hi,hiz,run_underlying hu]
  rw[hm]
  simp only[Result.andThen_ok]
  rw[y1]
  simp only[Result.andThen_ok,Sem.run_pure]
/-! new memory -/
def s6_ (l:Nat) (t:TypeId) (cs:List V):Eff:={ v:=.pt l cs.length 0 0,wr:=[(l,some ⟨t,cs.length,[cs]⟩)],nw:=[l] }
theorem f0_ (v:V) (wr:List (Nat × Option Blk)) (l:Nat) (rd:List Nat) (u:Nat→Bool):Eff.use ⟨v,wr,[l],rd⟩ u=fun x=>if x=l then true else u x:=by
 funext x
 by_cases h:x=l<;>simp[Eff.use,h]
theorem RelAt.box (hr:RelAt E C φ s a w) {l:Nat} (hl:s.u l=false) {t:TypeId} {cs:List V} {xs:Array Value} (hne:(cs.length != 0)=true) (hv:VRs φ (C.S φ s.m) w cs xs.toList) (h1:∀u∈xs.toList,u.oneCell'=true) :
  RelAt E C (fun x=>if x=l then some (some w.heap.size)else φ x) ⟨s.σ,(s6_ l t cs).mem s.m,(s6_ l t cs).use s.u⟩ a (w.alloc (.cells xs t))∧
   VR (fun x=>if x=l then some (some w.heap.size)else φ x) (C.S (fun x=>if x=l then some (some w.heap.size)else φ x) ((s6_ l t cs).mem s.m)) (w.alloc (.cells xs t)) (s6_ l t cs).v (.pointer (some ⟨w.heap.size,0,none⟩)):=by
 have hrow:VRr φ (C.S φ s.m) w cs.length [cs] xs.toList:=by
  have:=VRr.cons rfl hv h1 (VRr.nil (z:=cs.length))
  simpa using this
 have hz:0<cs.length:=by simp at hne;exact List.length_pos_iff.2 hne
 have:=hr.alloc hl (arr:=xs) (T:=t) hz hrow (List.take_length)
 have e1:(s6_ l t cs).use s.u=fun x=>if x=l then true else s.u x:=f0_ _ _ _ _ _
 rw[e1]
 exact this
theorem VRs.ones:∀ {vs:List V} {xs:List Value},VRs φ S w vs xs→vs.all V.one=true→∀u∈xs,u.oneCell'=true
 |[],_,h,_=>by simp only[VRs]at h;subst h;intro u hu;cases hu
 |v::vs,xs,h,h1=>by
  simp only[VRs]at h
  obtain⟨x,r,rfl,h2,h3⟩:=h
  simp only[List.all_cons,Bool.and_eq_true]at h1
  intro u hu
  rcases List.mem_cons.1 hu with rfl|hu
  ·exact h2.oneCell h1.1
  exact h3.ones h1.2 u hu
theorem a09_ {t:TypeId} {x:Operand} {l:Nat} (hp:PC E o s) (ho:o.op = .box t x) (h:okC (s.pv E x)=true) (hne:((s.pv E x).cells.length != 0)=true):Op1 E o s (s6_ l t (s.pv E x).cells):=by
 have hpx:=hp x (by simp[ho,Op.operands])
 refine Op1.of fun s' e1 _ e3 C φ a w hr=>?_
 have h1:=hr.pv (x:=x) (by rw[e1 x (by simp[ho,Op.operands])];exact hpx)
 have e1x:s'.pv E x=s.pv E x:=by unfold St.pv;rw[e1 x (by simp[ho,Op.operands])]
 rw[e1x]at h1
 obtain⟨c1,c2⟩:=okC.cells h h1
 obtain⟨k1,k2⟩:=hr.box (e3 l (by simp[s6_])) (t:=t) hne c1 c2
 exact⟨_,_,_,.inl (by simp[execOp,ho,Instr.box,newVar,newRow]),k1,k2⟩
theorem dc_ {zc:List V} (h:zc.all V.one=true):V.no ∉ zc:=fun hm=>by
 have:=List.all_eq_true.1 h _ hm;simp[V.one]at this
theorem as9_ {t:TypeId} {l:Nat} {zc:List V} (ho:o.op = .alloc t) (hz:(aq_ E.P t).cells=zc) (h1:zc.all V.one=true) (hne:(zc.length != 0)=true):Op1 E o s (s6_ l t zc):=by
 refine Op1.of fun s' e1 _ e3 C φ a w hr=>?_
 obtain⟨i,z,hi,hiz,hzv,hzn⟩:=c9_ (φ:=φ) (S:=C.S φ s'.m) (w:=w) hz rfl (dc_ h1)
 obtain⟨k1,k2⟩:=hr.box (e3 l (by simp[s6_])) (t:=t) hne hzv (hzv.ones h1)
 exact⟨_,_,_,.inl (by simp[execOp,ho,Instr.alloc,zeroValue,typeInfo,hi,hiz,newVar,newRow]),k1,k2⟩
end
end
section
open Go.RowKit
section
variable {E:Env} {C:Cx} {φ φ':Phi} {s:St} {a:Act} {w w':World} {o:Oper} {e:Eff} {S:Nat→Prop}
theorem RelAt.allocRO (h:RelAt E C φ s a w) (ob:Obj):RelAt E C φ s a (w.alloc ob)∧KeepsW φ φ (C.S φ s.m) (C.S φ s.m) w (w.alloc ob)∧C.S φ s.m w.heap.size:=by
 have hset:∀g,C.S φ s.m g→g<w.heap.size→C.S φ s.m g∧(w.alloc ob).heap[g]? = w.heap[g]?:=fun g hg hlt=>⟨hg,Below.heap_alloc w _ g hlt⟩
 have hfr:=FrameW.alloc (fun _=>False) w ob
 refine⟨h.step (fun _ _ h=>h) h.used hset hfr (fun _ h=>h.elim) (fun l b hb=>.inl ⟨hb,fun g hg=>Below.heap_alloc w _ g ((h.mem l b hb).lt hg)⟩) h.inj h.own,h.keeps (fun _ _ h=>h) hset hfr,.inr h.frame.size,fun l b hb hh=>?_⟩
 exact absurd ((h.mem l b hb).lt hh) (Nat.lt_irrefl _)
theorem VRr.replicate {z:Nat} {r:List V} {ys:List Value} (hz:r.length=z) (h:VRs φ S w r ys) (h1:∀u∈ys,u.oneCell'=true):∀n,VRr φ S w z (List.replicate n r) (List.replicate n ys).flatten
 |0=>by simp only[List.replicate_zero,List.flatten_nil];exact .nil
 |n+1=>by
  simp only[List.replicate_succ,List.flatten_cons]
  exact .cons hz h h1 (VRr.replicate hz h h1 n)
theorem go_ (z:Array Value) (n:Nat) (hz:0<z.size):(madeCells z (n * z.size)).toList=(List.replicate n z.toList).flatten:=by
 induction n with
 |zero=>simp[madeCells]
 |succ n ih=>
  rw[List.replicate_succ,List.flatten_cons,←ih]
  simp only[madeCells,Array.toList_map,Array.toList_range]
  rw[show(n+1) * z.size=z.size+n * z.size by rw[Nat.add_mul];omega,List.range_add,List.map_append,List.map_map]
  congr 1
  ·apply List.ext_getElem
   ·simp
   intro i h1 h2
   simp at h1 h2
   simp[Nat.mod_eq_of_lt h2,h2]
  apply List.map_congr_left
  intro i _
  simp
/-! a slice that is built -/
def l6_ (z:Nat) (rows:List (List V)):List (Nat × V)→Option (List (List V))
 |[]=>some rows
 |(i,v)::r=>if v.cells.length=z∧okC v=true∧i<rows.length then l6_ z (rows.set i v.cells) r else none
theorem rz_ {z:Nat} (ρ:Operand→Value) (pv:Operand→V) :
  ∀(ps:List (Nat × Operand)),(∀p∈ps,VR φ S w (pv p.2) (ρ p.2))→∀(rows rs:List (List V)) (xs:Array Value),VRr φ S w z rows xs.toList→l6_ z rows (ps.map fun p=>(p.1,pv p.2))=some rs→
   rs.length=rows.length∧∃ys,Instr.fill (fun i=>some (i * z,z)) xs (ps.map fun p=>(p.1,ρ p.2))=some ys∧VRr φ S w z rs ys.toList
 |[],_,rows,rs,xs,hc,hf=>by simp[l6_]at hf;subst hf;exact⟨rfl,xs,rfl,hc⟩
 |(i,x)::ps,h,rows,rs,xs,hc,hf=>by
  simp only[List.map_cons,l6_]at hf
  split at hf
  ·rename_i hh
   obtain⟨h1,h2,h3⟩:=hh
   obtain⟨hv,hv1⟩:=okC.cells h2 (h (i,x) (by simp))
   have hl:(ρ x).cells.size=z:=by rw[←h1,←hv.len];simp
   have hxl:=hc.len
   rw[Array.length_toList]at hxl
   have hle:(i+1) * z≤rows.length * z:=Nat.mul_le_mul_right _ h3
   rw[Nat.add_mul,Nat.one_mul]at hle
   simp only[List.map_cons,Instr.fill]
   rw[if_neg (by simp;omega),za_ (i * z) _ xs (by omega)]
   have hput:=hc.put hv hv1 (c:=0) (by omega) i h3
   obtain⟨q1,q2⟩:=hc.getRow h3
   have e1:gz_ 0 (pv x).cells (rows.getD i [])=(pv x).cells:=by
    unfold gz_
    rw[List.take_zero,List.nil_append,Nat.zero_add,h1,List.drop_of_length_le (by rw[q1];exact Nat.le_refl _),List.append_nil]
   rw[e1,Nat.add_zero]at hput
   obtain⟨r1,r2⟩:=rz_ ρ pv ps (fun p hp=>h p (by simp[hp])) _ rs (gz_ (i * z) (ρ x).cells.toList xs.toList).toArray hput hf
   exact⟨by rw[r1];simp,r2⟩
  cases hf
theorem xe_ {t:TypeId} {n:Nat} {ps:Array (Nat × Operand)} {el z y:Nat} {zc:List V} {rs:List (List V)} (hp:PC E o s) (ho:o.op = .buildSlice t n ps) (ht:(ax_ E.P t).map (·.k)=some (.sl el z y zc)) (hz:0<z) (hzl:zc.length=z) (hb:n * z≤16777216) (h1:zc.all V.one=true)
  (hf:l6_ z (List.replicate n zc) (hp_ E s ps)=some rs):Op1 E o s { v:=.sl true rs }:=by
 refine Op1.of fun s' e1 _ _ C φ a w hr=>?_
 have hops:∀p∈ps.toList,p.2∈o.op.operands:=fun p hp=>by simp[ho,Op.operands];exact⟨p.1,Array.mem_toList_iff.1 hp⟩
 have hv:∀p∈ps.toList,VR φ (C.S φ s'.m) w (s.pv E p.2) (a.eval p.2):=fun p hp'=>by
  have e:=e1 p.2 (hops p hp')
  have:=hr.pv (x:=p.2) (by rw[e];exact hp p.2 (hops p hp'))
  unfold St.pv at this ⊢
  rwa [e]at this
 cases hti:ax_ E.P t with
 |none=>simp[hti]at ht
 |some ti=>
  simp[hti]at ht
  obtain⟨hu,hzz,hy,hzero⟩:=tn_ hti ht
  obtain⟨i,zv,hi,hiz,hzv,hzn⟩:=c9_ (φ:=φ) (S:=C.S φ s'.m) (w:=w) hzero.symm hzl (dc_ h1)
  have hmc:=go_ zv.cells n (by omega)
  rw[hzn]at hmc
  have hrep:=VRr.replicate hzl hzv (hzv.ones h1) n
  rw[←hmc]at hrep
  obtain⟨r1,ys,r2,r3⟩:=rz_ a.eval (s.pv E) ps.toList hv (List.replicate n zc) rs _ hrep hf
  rw[List.length_replicate]at r1
  have hrun:(execOp a.eval o).run E.P w = .ok (.value (.slice (some ⟨w.heap.size,0,none⟩) n n)) (w.alloc (.cells ys el)):=by
   have hso:=ce_ (P:=E.P) w hzz.symm hz
   have e2:(Array.range (n * z)).map (zv.cells[· % zv.cells.size]!)=madeCells zv.cells (n * z):=rfl
   have hb':¬(16777216<n * z):=by omega
   by_cases hn:n=0
   ·subst hn
    have e3:madeCells zv.cells (0 * z)=#[]:=by simp[madeCells]
    rw[e3]at r2
    simp[execOp,ho,Instr.buildSlice,run_underlying hu,hso,newRow]
    rw[show(Array.map (fun _=>default) (Array.range 0):Array Value)=#[]from by apply Array.ext';simp,r2]
    simp
   have hnz:n * z≠0:=Nat.mul_ne_zero hn (by omega)
   simp[execOp,ho,Instr.buildSlice,run_underlying hu,hso,hb',hnz,zeroValue,typeInfo,hi,hiz,newRow]
   rw[e2,r2]
   simp
  obtain⟨k1,k2,k3⟩:=hr.allocRO (.cells ys el)
  refine⟨_,_,φ,.inl hrun,by rw[Eff.mem_nil,Eff.use_nil];exact k1,?_⟩
  simp only[Eff.mem_nil,VR]
  refine⟨some ⟨w.heap.size,0,none⟩,n,z,ys.toList,by rw[r1],by omega,?_,fun _=>r1.symm,fun _=>⟨w.heap.size,0,rfl,k3,by simp,fun j u hu=>?_⟩,r3.keep k2⟩
  ·have:=Nat.le_mul_of_pos_right n hz
   unfold maxLen;omega
  rw[cell_of_row _ _ _ ys el (0,0) (heap_alloc_new w _),Nat.zero_add,←Array.getElem?_toList];exact hu
theorem aet_ {f:Fn} {first captured:Array Operand} (hp:PC E o s) (ho:o.op = .makeFunc f first captured):Op1 E o s { v:=.fn f (first.toList.map (s.pv E)) (captured.toList.map (s.pv E)) }:=by
 refine Op1.pure' hp fun φ S w ρ hr _=>⟨_,by simp[execOp,ho,Instr.makeFunc];rfl,?_⟩
 have key:∀l:List Operand,(∀x∈l,x∈o.op.operands)→VRs φ S w (l.map (s.pv E)) (l.map ρ):=fun l=>by
  induction l with
  |nil=>exact fun _=>.nil
  |cons x l ih=>exact fun h=>.cons (hr x (h x (by simp))) (ih fun y hy=>h y (by simp[hy]))
 simp only[VR]
 exact⟨_,_,rfl,by simpa using key first.toList (fun x hx=>by simp[ho,Op.operands,Array.mem_toList_iff.1 hx]),by simpa using key captured.toList (fun x hx=>by simp[ho,Op.operands,Array.mem_toList_iff.1 hx])⟩
def extV (x:V) (i:Nat):V:=match x with|.tu vs=>vs.getD i .no|_=>.no
def extC (x:V) (i:Nat):Prop:=match x with|.tu vs=>i<vs.length|_=>False
theorem ahn_ {x:Operand} {i:Nat} (hp:PC E o s) (ho:o.op = .extract x i) (h:extC (s.pv E x) i):Op1 E o s { v:=extV (s.pv E x) i }:=by
 refine Op1.pure' hp fun φ S w ρ hr _=>?_
 have h1:=hr x (by simp[ho,Op.operands])
 generalize s.pv E x=vx at *
 cases vx<;>simp only[extC]at h
 simp only[VR]at h1
 obtain⟨xs,h2,h3⟩:=h1
 rename_i vs
 obtain⟨y,hy,hv⟩:=h3.get (j:=i) (v:=vs.getD i .no) (by rw[List.getD_eq_getElem?_getD,List.getElem?_eq_getElem h];rfl)
 rw[Array.getElem?_toList]at hy
 exact⟨y,by simp[execOp,ho,h2,Instr.extract,hy],hv⟩
/-! lengths -/
def lenV:V→V
 |.s l=>.i .i64 l.length
 |.sl _ rows=>.i .i64 rows.length
 |.ow _ _ _ n=>.i .i64 n
 |_=>.no
def lenC (P:Program) (t:TypeId):V→Prop
 |.s _=>(ax_ P t).map (·.k)=some .str
 |.sl _ _|.ow _ _ _ _=>∃el z y zc,(ax_ P t).map (·.k)=some (.sl el z y zc)
 |_=>False
theorem qz_ {P:Program} {t:TypeId} (h:(ax_ P t).map (·.k)=some .str):P.underlying t=some .string:=by
 cases ht:ax_ P t with
 |none=>simp[ht]at h
 |some ti=>simp[ht]at h;exact agl_ ht h
theorem db_ {P:Program} {t:TypeId} {el z y:Nat} {zc:List V} (h:(ax_ P t).map (·.k)=some (.sl el z y zc)):P.underlying t=some (.slice el)∧z=P.cellsOf el∧y=P.bytesOf el∧zc=(aq_ P el).cells:=by
 cases ht:ax_ P t with
 |none=>simp[ht]at h
 |some ti=>simp[ht]at h;exact tn_ ht h
theorem a3g_ {x:Operand} {t:TypeId} (hp:PC E o s) (ho:o.op = .call { callee:=.builtin .len,args:=#[x],argTypes:=#[t] }) (h:lenC E.P t (s.pv E x)):Op1 E o s { v:=lenV (s.pv E x) }:=by
 refine Op1.pure' hp fun φ S w ρ hr _=>?_
 have h1:=hr x (by simp[ho,Op.operands,Call.operands])
 generalize s.pv E x=vx at *
 cases vx<;>simp only[lenC]at h<;>simp only[VR]at h1
 ·have hu:=qz_ h
  exact⟨_,by simp[execOp,ho,h1,resolve,invoke,builtin,Builtin.len_,run_underlying hu];rfl,by simp[lenV,VR,goInt,ByteArray.size]⟩
 ·obtain⟨el,z,y,zc,h⟩:=h
  obtain⟨hu,_⟩:=db_ h
  obtain⟨A,c,z,xs,h2,_⟩:=h1
  exact⟨_,by simp[execOp,ho,h2,resolve,invoke,builtin,Builtin.len_,run_underlying hu];rfl,by simp[lenV,VR,goInt]⟩
 obtain⟨el,z,y,zc,h⟩:=h
 obtain⟨hu,_⟩:=db_ h
 obtain⟨A,c,h2,_⟩:=h1
 exact⟨_,by simp[execOp,ho,h2,resolve,invoke,builtin,Builtin.len_,run_underlying hu];rfl,by simp[lenV,VR,goInt]⟩
theorem a07_ {x y:Operand} {k:IntKind} {p q:Int} {ts:Array TypeId} (hp:PC E o s) (ho:o.op = .call { callee:=.builtin .max,args:=#[x,y],argTypes:=ts }) (hx:s.pv E x = .i k p) (hy:s.pv E y = .i k q):Op1 E o s { v:=.i k (if q > p then q else p) }:=by
 refine Op1.pure' hp fun φ S w ρ hr _=>?_
 have h1:=hr x (by simp[ho,Op.operands,Call.operands])
 have h2:=hr y (by simp[ho,Op.operands,Call.operands])
 rw[hx]at h1;rw[hy]at h2
 simp only[VR]at h1 h2
 exact⟨_,by simp[execOp,ho,h1,h2,resolve,invoke,builtin,Builtin.max_,Builtin.max2];rfl,by simp only[VR]⟩
theorem a2t_ {x y:Operand} {k:IntKind} {p q:Int} {ts:Array TypeId} (hp:PC E o s) (ho:o.op = .call { callee:=.builtin .min,args:=#[x,y],argTypes:=ts }) (hx:s.pv E x = .i k p) (hy:s.pv E y = .i k q):Op1 E o s { v:=.i k (if q<p then q else p) }:=by
 refine Op1.pure' hp fun φ S w ρ hr _=>?_
 have h1:=hr x (by simp[ho,Op.operands,Call.operands])
 have h2:=hr y (by simp[ho,Op.operands,Call.operands])
 rw[hx]at h1;rw[hy]at h2
 simp only[VR]at h1 h2
 exact⟨_,by simp[execOp,ho,h1,h2,resolve,invoke,builtin,Builtin.min_,Builtin.min2];rfl,by simp only[VR]⟩
/-! conversions; a byte of a string -/
theorem ax8_ {src dst:TypeId} {x:Operand} {k k':IntKind} {n:Int} (hp:PC E o s) (ho:o.op = .convert src dst x) (hs:(ax_ E.P src).isSome=true) (hd:(ax_ E.P dst).map (·.k)=some (.int k')) (hx:s.pv E x = .i k n):Op1 E o s { v:=.i k' (k'.wrap n) }:=by
 refine Op1.pure' hp fun φ S w ρ hr _=>?_
 have h1:=hr x (by simp[ho,Op.operands])
 rw[hx]at h1;simp only[VR]at h1
 cases h2:ax_ E.P src with
 |none=>simp[h2]at hs
 |some ti=>
  obtain⟨i,d,a1,a2,_⟩:=f6_ h2
  cases h3:ax_ E.P dst with
  |none=>simp[h3]at hd
  |some tj=>
   simp[h3]at hd
   have a3:=vh_ h3 hd
   refine⟨.int k' (k'.wrap n),?_,by simp only[VR]⟩
   simp[execOp,ho,h1,convert,run_underlying a2,run_underlying a3]
   cases d<;>rfl
theorem aql_ {t:TypeId} {x i:Operand} {l:Str} {k:IntKind} {n:Int} (hp:PC E o s) (ho:o.op = .index t x i) (ht:(ax_ E.P t).map (·.k)=some .str) (hx:s.pv E x = .s l) (hi:s.pv E i = .i k n) (h0:0≤n) (h1:n<l.length):Op1 E o s { v:=.i .u8 (l.getD n.toNat 0).toNat }:=by
 refine Op1.pure' hp fun φ S w ρ hr _=>?_
 have h2:=hr x (by simp[ho,Op.operands])
 have h3:=hr i (by simp[ho,Op.operands])
 rw[hx]at h2;rw[hi]at h3
 simp only[VR]at h2 h3
 have hu:=qz_ ht
 have hlt:n.toNat<l.length:=by omega
 refine⟨.int .u8 (l.getD n.toNat 0).toNat,?_,by simp only[VR]⟩
 have hb:(⟨l.toArray⟩:ByteArray)[n.toNat]? = some (l.getD n.toNat 0):=by
  rw[getElem?_pos (⟨l.toArray⟩:ByteArray) n.toNat (show n.toNat<l.toArray.size by simpa using hlt)]
  rw[List.getD_eq_getElem?_getD,List.getElem?_eq_getElem hlt]
  rfl
 simp only[execOp,ho,h2,h3,Instr.index,asIntOf,Sem.run_bind,Sem.run_pure,Result.andThen_ok,run_underlying hu,h0,if_true,hb]
end
end
section
open Go.RowKit
section
variable {E:Env} {C:Cx} {φ φ':Phi} {s:St} {a:Act} {w w':World} {o:Oper} {e:Eff} {S:Nat→Prop}
def ioV:Option V→Option (Option Int)
 |none=>some none
 |some (.i _ n)=>some (some n)
 |_=>none
theorem axq_ {x:Option V} {y:Option Value} {n:Option Int} (h:ioV x=some n) (hv:∀v,x=some v→∃u,y=some u∧VR φ S w v u) (hn:x=none→y=none):(n=none∧y=none)∨∃k m,n=some m∧y=some (.int k m):=by
 cases x with
 |none=>simp[ioV]at h;exact .inl ⟨h.symm,hn rfl⟩
 |some v=>
  obtain⟨u,hu,hr⟩:=hv v rfl
  cases v<;>simp[ioV]at h
  simp only[VR]at hr
  subst hr
  exact .inr ⟨_,_,h.symm,hu⟩
theorem k7_ {P:Program} (isS:Bool) (len cap:Nat) {lo hi mx:Option Int} {lv hv mv:Option Value}
  (hlo:(lo=none∧lv=none)∨∃k m,lo=some m∧lv=some (.int k m)) (hhi:(hi=none∧hv=none)∨∃k m,hi=some m∧hv=some (.int k m)) (hmx:(mx=none∧mv=none)∨∃k m,mx=some m∧mv=some (.int k m))
  (h1:0≤lo.getD 0) (h2:lo.getD 0≤hi.getD len) (h3:hi.getD len≤mx.getD len) (h4:mx.getD len≤len) (h5:len≤cap) (h6:mx≠none→hi≠none) :
  (Instr.sliceBounds isS len cap lv hv mv).run P w = .ok ((lo.getD 0).toNat,(hi.getD len).toNat,(mx.getD cap).toNat) w:=by
 have sb:∀(k:IntKind) (m:Int) (y:Nat) (c:BoundsCode),0≤m→m≤y→(Instr.sliceBound (.int k m) y c).run P w = .ok m.toNat w:=fun k m y c g1 g2=>by
  simp[Instr.sliceBound,asIntOf,g1,g2]
 rcases hlo with⟨rfl,rfl⟩|⟨k1,l,rfl,rfl⟩<;>rcases hhi with⟨rfl,rfl⟩|⟨k2,h,rfl,rfl⟩<;>rcases hmx with⟨rfl,rfl⟩|⟨k3,m,rfl,rfl⟩<;>simp only[Option.getD_none,Option.getD_some]at h1 h2 h3 h4 ⊢
 ·simp[Instr.sliceBounds]
 ·simp at h6
 ·simp[Instr.sliceBounds,sb k2 h cap _ (by omega) (by omega)]
 ·simp[Instr.sliceBounds,sb k3 m cap _ (by omega) (by omega),sb k2 h m.toNat _ (by omega) (by omega)]
 ·simp[Instr.sliceBounds,sb k1 l len _ (by omega) (by omega)]
 ·simp at h6
 ·simp[Instr.sliceBounds,sb k2 h cap _ (by omega) (by omega),sb k1 l h.toNat _ (by omega) (by omega)]
 simp[Instr.sliceBounds,sb k3 m cap _ (by omega) (by omega),sb k2 h m.toNat _ (by omega) (by omega),sb k1 l h.toNat _ (by omega) (by omega)]
def bndC (len:Nat) (lo hi mx:Option Int):Prop:=
 0≤lo.getD 0∧lo.getD 0≤hi.getD len∧hi.getD len≤mx.getD len∧mx.getD len≤len∧(mx≠none→hi≠none)
def slcV (x:V) (lo hi mx:Option Int):V:=
 match x with
 |.s l=>.s ((l.take (hi.getD l.length).toNat).drop (lo.getD 0).toNat)
 |.sl t rows=>.sl (match mx with|some m=>decide (m=hi.getD rows.length)|none=>t&&hi.isNone) ((rows.take (hi.getD rows.length).toNat).drop (lo.getD 0).toNat)
 |.ow l z p n=>.ow l z (p+(lo.getD 0).toNat) ((hi.getD n).toNat - (lo.getD 0).toNat)
 |_=>.no
def slcC (k:Option TK) (x:V) (lo hi mx:Option Int):Prop:=
 match k,x with
 |some .str,.s l=>mx=none∧bndC l.length lo hi mx
 |some (.sl _ z _ _),.sl _ rows=>0<z∧bndC rows.length lo hi mx∧(lo.getD 0=0∨∀r∈rows,r.length=z)
 |some (.sl _ z _ _),.ow _ z' _ n=>0<z∧bndC n lo hi mx∧z'=z
 |_,_=>False
theorem avm_ {t:TypeId} {x:Operand} {lo hi mx:Option Operand} {l h m:Option Int} (hp:PC E o s) (ho:o.op = .slice t x lo hi mx) (hl:ioV (lo.map (s.pv E))=some l) (hh:ioV (hi.map (s.pv E))=some h) (hm:ioV (mx.map (s.pv E))=some m)
  (hc:slcC ((ax_ E.P t).map (·.k)) (s.pv E x) l h m):Op1 E o s { v:=slcV (s.pv E x) l h m }:=by
 refine Op1.pure' hp fun φ S w ρ hr _=>?_
 have h1:=hr x (by simp[ho,Op.operands])
 have opt:∀(y:Option Operand) (n:Option Int),(∀z,y=some z→z∈o.op.operands)→ioV (y.map (s.pv E))=some n→(n=none∧y.map ρ=none)∨∃k m,n=some m∧y.map ρ=some (.int k m):=fun y n hy hn=>
  axq_ (φ:=φ) (S:=S) (w:=w) hn (fun v hv=>by
   cases y with
   |none=>cases hv
   |some z=>simp at hv;subst hv;exact⟨_,rfl,hr z (hy z rfl)⟩) (fun hv=>by cases y<;>simp_all)
 have a1:=opt lo l (fun z hz=>by simp[ho,Op.operands,hz]) hl
 have a2:=opt hi h (fun z hz=>by simp[ho,Op.operands,hz]) hh
 have a3:=opt mx m (fun z hz=>by simp[ho,Op.operands,hz]) hm
 clear hl hh hm opt
 generalize s.pv E x=vx at *
 generalize hk:(ax_ E.P t).map (·.k)=kk at hc
 cases vx<;>(cases kk<;>simp only[slcC]at hc)<;>rename_i kk<;>cases kk<;>simp only[]at hc<;>simp only[VR]at h1
 case s.some.str ls=>
  obtain⟨rfl,b1,b2,b3,b4,b5⟩:=hc
  have hu:=qz_ hk
  have hb:=k7_ (P:=E.P) (w:=w) false ls.length ls.length a1 a2 a3 b1 b2 b3 b4 (Nat.le_refl _) b5
  have hs:(⟨ls.toArray⟩:ByteArray).size=ls.length:=by simp[ByteArray.size]
  rcases a3 with⟨_,a3⟩|⟨_,_,a3,_⟩
  ·rw[a3]at hb
   refine⟨.string ((⟨ls.toArray⟩:ByteArray).extract (l.getD 0).toNat (h.getD ls.length).toNat),?_,?_⟩
   ·simp[execOp,ho,h1,Instr.sliceAt,Instr.slice,run_underlying hu,a3,hs,hb]
   simp only[slcV,VR]
   congr 1
   rw[ByteArray.ext_iff]
   apply Array.ext'
   rw[Lib.extract_data]
   simp[List.drop_take]
  cases a3
 case sl.some.sl tt rows el z y zc=>
  obtain⟨hz,⟨b1,b2,b3,b4,b5⟩,hrz⟩:=hc
  obtain⟨hu,hzz,_⟩:=db_ hk
  obtain⟨A,c,z',xs,e1,e2,e3,e4,e5,e6⟩:=h1
  have hb:=k7_ (P:=E.P) (w:=w) true rows.length c a1 a2 a3 b1 b2 b3 b4 e2 b5
  have hso:=ce_ (P:=E.P) w hzz.symm hz
  refine⟨.slice (if (m.getD c).toNat=(l.getD 0).toNat then A else A.map (·.add ((l.getD 0).toNat * z))) ((h.getD rows.length).toNat - (l.getD 0).toNat) ((m.getD c).toNat - (l.getD 0).toNat),?_,?_⟩
  ·simp[execOp,ho,e1,Instr.sliceAt,Instr.slice,run_underlying hu,hb,hso]
  simp only[slcV,VR]
  have hmc:(h.getD rows.length).toNat≤(m.getD c).toNat:=by
   cases m with
   |none=>simp at b3 ⊢;omega
   |some m=>simp at b3 ⊢;omega
  refine⟨_,(m.getD c).toNat - (l.getD 0).toNat,z',(xs.take ((h.getD rows.length).toNat * z')).drop ((l.getD 0).toNat * z'),(by rw[List.length_drop,List.length_take,Nat.min_eq_left (by omega)]),(by simp only[List.length_drop,List.length_take];omega),?_,fun ht=>?_,fun hne=>?_,(e6.take _).drop _⟩
  ·cases m with
   |none=>simp;omega
   |some m=>simp at b4 ⊢;omega
  ·simp only[List.length_drop,List.length_take]
   cases m with
   |none=>
    simp at ht
    have:=e4 ht.1
    cases h with
    |none=>simp;omega
    |some _=>simp at ht
   |some m=>
    simp at ht
    simp only[Option.getD_some]at b4 b3 ⊢
    omega
  have hxs:xs≠[]:=fun e=>by subst e;simp at hne
  obtain⟨g,p,rfl,f2,f3,f4⟩:=e5 hxs
  have hlh:(l.getD 0).toNat<(h.getD rows.length).toNat:=by
   rcases Nat.lt_or_ge (l.getD 0).toNat (h.getD rows.length).toNat with h1|h1
   ·exact h1
   refine absurd ?_ hne
   apply List.drop_eq_nil_of_le
   rw[List.length_take]
   have:=Nat.mul_le_mul_right z' h1
   omega
  have hl0:(l.getD 0).toNat * z=(l.getD 0).toNat * z':=by
   rcases hrz with h1|h1
   ·rw[h1];simp
   have hpos:0<rows.length:=by omega
   have:=e6.rowlen rows[0] (List.getElem_mem hpos)
   rw[h1 rows[0] (List.getElem_mem hpos)]at this
   rw[this]
  rw[if_neg (by omega)]
  refine⟨g,p+(l.getD 0).toNat * z',by simp[Addr.add_spot,hl0],f2,f3,fun j u hu=>?_⟩
  rw[List.getElem?_drop,List.getElem?_take]at hu
  split at hu
  ·rw[Nat.add_assoc];exact f4 _ _ hu
  cases hu
 case ow.some.sl ll z' p n el z y zc=>
  obtain⟨hz,⟨b1,b2,b3,b4,b5⟩,rfl⟩:=hc
  obtain⟨hu,hzz,_⟩:=db_ hk
  obtain⟨A,c,e1,e2,e3,e4⟩:=h1
  have hb:=k7_ (P:=E.P) (w:=w) true n c a1 a2 a3 b1 b2 b3 b4 e2 b5
  have hso:=ce_ (P:=E.P) w hzz.symm hz
  refine⟨.slice (if (m.getD c).toNat=(l.getD 0).toNat then A else A.map (·.add ((l.getD 0).toNat * z'))) ((h.getD n).toNat - (l.getD 0).toNat) ((m.getD c).toNat - (l.getD 0).toNat),?_,?_⟩
  ·simp[execOp,ho,e1,Instr.sliceAt,Instr.slice,run_underlying hu,hb,hso]
  simp only[slcV,VR]
  have hmc:(h.getD n).toNat≤(m.getD c).toNat∧(m.getD c).toNat≤c:=by
   cases m with
   |none=>simp at b3 ⊢;omega
   |some m=>simp at b3 b4 ⊢;omega
  refine⟨_,_,rfl,by omega,by omega,?_⟩
  by_cases hml:(m.getD c).toNat=(l.getD 0).toNat
  ·exact .inl (by omega)
  rcases e4 with e4|⟨g,T,mm,f1,f2,f3,f4⟩
  ·exact .inl (by omega)
  subst f2
  refine .inr ⟨g,T,mm,f1,?_,f3,?_⟩
  ·rw[if_neg hml]
   simp[Addr.add_spot,Nat.add_mul]
  refine Nat.le_trans (Nat.mul_le_mul_right _ ?_) f4
  omega
end
end
end Go.Proofs.YthjccajoadjicaaGreatDoor
