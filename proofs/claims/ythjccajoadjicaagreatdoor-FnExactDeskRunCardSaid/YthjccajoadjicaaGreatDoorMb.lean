/- Tree logic, part 9: append and make. Conditions: none. -/
import Derived.Test.YthjccajoadjicaaGreatDoorMa
set_option linter.unusedVariables false
set_option linter.unusedSimpArgs false
namespace Go.Proofs.YthjccajoadjicaaGreatDoor
section
open Go.RowKit
section
variable {E:Env} {C:Cx} {φ φ':Phi} {s:St} {a:Act} {w w':World} {o:Oper} {e:Eff} {S:Nat→Prop}
theorem RelAt.erase (h:RelAt E C φ s a w) (l:Nat):RelAt E C φ ⟨s.σ,upd s.m l none,s.u⟩ a w∧KeepsW φ φ (C.S φ s.m) (C.S φ (upd s.m l none)) w w:=by
 have old:∀x b,upd s.m l none x=some b→x≠l∧s.m x=some b:=fun x b hx=>by
  by_cases e:x=l
  ·subst e;simp at hx
  exact⟨e,by rwa [bs_ _ e]at hx⟩
 have hset:∀g,C.S φ s.m g→g<w.heap.size→C.S φ (upd s.m l none) g∧w.heap[g]? = w.heap[g]?:=fun g hg _=>⟨⟨hg.1,fun x b hb=>hg.2 x b (old x b hb).2⟩,rfl⟩
 exact⟨h.step (fun _ _ h=>h) h.used hset (FrameW.refl (fun _=>False) w) (fun _ h=>h.elim) (fun x b hb=>.inl ⟨(old x b hb).2,fun _ _=>rfl⟩)
  (fun x x' b b' g h1 h2=>h.inj x x' b b' g (old x b h1).2 (old x' b' h2).2) (fun x b g h1=>h.own x b g (old x b h1).2),h.keeps (fun _ _ h=>h) hset (FrameW.refl (fun _=>False) w)⟩
theorem RelAt.moveTo (h:RelAt E C φ s a w) {l l':Nat} {b:Blk} (hb:s.m l=some b) (hl:s.u l'=false) {rows:List (List V)}
  (hc:(φ l=some none∧rows=[]∧w'=w)∨∃g arr arr' xs,φ l=some (some g)∧w.heap[g]? = some (.cells arr b.T (0,0))∧arr'.size=arr.size∧w'.heap[g]? = some (.cells arr' b.T (0,0))∧(∀k,k≠g→w'.heap[k]? = w.heap[k]?)∧w'.heap.size=w.heap.size∧
   (w'.os=w.os∧w'.tape=w.tape∧w'.output=w.output)∧VRr φ (C.S φ s.m) w b.z rows xs∧arr'.toList.take xs.length=xs) :
  RelAt E C (fun x=>if x=l' then φ l else φ x) ⟨s.σ,upd (upd s.m l none) l' (some { b with rows:=rows }),fun x=>if x=l' then true else s.u x⟩ a w':=by
 have hn:φ l'=none:=by
  cases hh:φ l' with
  |none=>rfl
  |some x=>have:=h.used l' (by rw[hh];simp);rw[hl]at this;cases this
 have hll:l≠l':=fun e=>by
  subst e
  exact(h.mem l b hb).name hn
 have hphi:∀x y,φ x=some y→(fun x=>if x=l' then φ l else φ x) x=some y:=fun x y hxy=>by
  by_cases e:x=l'
  ·subst e;rw[hn]at hxy;cases hxy
  simpa[e]using hxy
 have old:∀x c,upd (upd s.m l none) l' (some { b with rows:=rows }) x=some c→(x=l'∧c={ b with rows:=rows })∨(x≠l'∧x≠l∧s.m x=some c):=fun x c hx=>by
  by_cases e:x=l'
  ·subst e;rw[dd_]at hx;cases hx;exact .inl ⟨rfl,rfl⟩
  rw[bs_ _ e]at hx
  by_cases e':x=l
  ·subst e';simp at hx
  rw[bs_ _ e']at hx;exact .inr ⟨e,e',hx⟩
 have hfree:∀g,wi_ φ s.m g→wi_ (fun x=>if x=l' then φ l else φ x) (upd (upd s.m l none) l' (some { b with rows:=rows })) g:=fun g hg x c hx=>by
  rcases old x c hx with⟨rfl,rfl⟩|⟨e,e',hx⟩
  ·simp only[if_true];exact hg l b hb
  simp only[e,if_false];exact hg x c hx
 have hset:∀g,C.S φ s.m g→g<w.heap.size→C.S (fun x=>if x=l' then φ l else φ x) (upd (upd s.m l none) l' (some { b with rows:=rows })) g∧w'.heap[g]? = w.heap[g]?:=fun g hg _=>by
  refine⟨⟨hg.1,hfree g hg.2⟩,?_⟩
  rcases hc with⟨_,_,rfl⟩|⟨g',arr,arr',xs,c1,c2,c3,c4,c5,_⟩
  ·rfl
  exact c5 g (fun e=>hg.2 l b hb (by rw[e];exact c1))
 have hfr:FrameW (fun k=>φ l=some (some k)) w w':=by
  rcases hc with⟨_,_,rfl⟩|⟨g',arr,arr',xs,c1,c2,c3,c4,c5,c6,c7,_⟩
  ·exact FrameW.refl _ _
  refine⟨c7.1,c7.2.1,c7.2.2,by omega,fun k _ hk=>c5 k (fun e=>hk (by rw[e];exact c1)),fun k x hx=>?_⟩
  by_cases e:k=g'
  ·subst e
   simp only[World.shape?,c2,c4]at hx ⊢
   rw[c3];exact hx
  rw[fx_ (c5 k e)];exact hx
 refine h.step hphi (fun x hx=>?_) hset hfr (fun k hk=>h.own l b k hb hk) (fun x c hx=>?_) (fun x x' c c' g h1 h2 h3 h4=>?_) (fun x c g h1 h3=>?_)
 ·by_cases e:x=l'
  ·simp[e]
  simp only[e,if_false]at hx ⊢;exact h.used x hx
 ·rcases old x c hx with⟨rfl,rfl⟩|⟨e,e',hx⟩
  ·refine .inr ?_
   have hk:=h.keeps hphi hset hfr
   rcases hc with⟨c1,c2,rfl⟩|⟨g',arr,arr',xs,c1,c2,c3,c4,c5,c6,c7,c8,c9⟩
   ·exact .inl ⟨by simp[c1],c2⟩
   exact .inr (.inl ⟨g',arr',xs,by simp[c1],c4,c8.keep hk,c9,(by
    rcases h.mem l b hb with⟨q1,_⟩|⟨_,_,_,_,_,_,_,q1⟩|⟨g',es,ck,_,q1,q2,_⟩
    ·rw[c1]at q1;cases q1
    ·exact q1
    rw[c1]at q1;cases q1;rw[c2]at q2;cases q2)⟩)
  refine .inl ⟨hx,fun g hg=>?_⟩
  rcases hc with⟨_,_,rfl⟩|⟨g',arr,arr',xs,c1,c2,c3,c4,c5,_⟩
  ·rfl
  exact c5 g (fun e2=>e' (h.inj x l c b g hx hb hg (by rw[e2];exact c1)))
 ·rcases old x c h1 with⟨rfl,rfl⟩|⟨e,e',hx⟩<;>rcases old x' c' h2 with⟨rfl,rfl⟩|⟨e2,e2',hx2⟩
  ·rfl
  ·simp only[if_true,e2,if_false]at h3 h4
   exact absurd (h.inj x' l c' b g hx2 hb h4 h3) e2'
  ·simp only[if_true,e,if_false]at h3 h4
   exact absurd (h.inj x l c b g hx hb h3 h4) e'
  simp only[e,e2,if_false]at h3 h4
  exact h.inj x x' c c' g hx hx2 h3 h4
 rcases old x c h1 with⟨rfl,rfl⟩|⟨e,e',hx⟩
 ·simp only[if_true]at h3;exact h.own l b g hb h3
 simp only[e,if_false]at h3;exact h.own x c g hx h3
def ro_ (m:Mem) (v:V):Option (List (List V)):=
 match v with
 |.sl _ rows=>some rows
 |.ow l z p n=>match m l with|some b=>if b.z=z∧p+n≤b.rows.length then some ((b.rows.drop p).take n)else none|none=>none
 |_=>none
def srcZ (v:V) (z:Nat):Prop:=match v with|.sl _ _=>True|.ow _ z' _ _=>z'=z|_=>False
theorem l7_ {v:V} {x:Value} {rows:List (List V)} {m:Mem} (hv:VR φ S w v x) (hs:ro_ m v=some rows) (hm:∀l∈cc_ v,∀b,m l=some b→MR φ S w l b) :
  ∃A c z xs,x = .slice A rows.length c∧rows.length≤c∧c≤maxLen∧VRr φ S w z rows xs∧(rows≠[]→srcZ v z)∧(xs≠[]→∃g p,A=some ⟨g,p,none⟩∧∀j u,xs[j]? = some u→w.cell? ⟨g,p+j,none⟩=some u)∧(∀t r,v = .sl t r→t=true→c=rows.length):=by
 cases v<;>simp only[ro_]at hs<;>simp only[VR]at hv<;>try contradiction
 case sl t r=>
  cases hs
  obtain⟨A,c,z,xs,e1,e2,e3,e4,e5,e6⟩:=hv
  refine⟨A,c,z,xs,e1,e2,e3,e6,fun _=>trivial,fun hne=>?_,fun t' r' hh ht=>by cases hh;exact e4 ht⟩
  obtain⟨g,p,f1,_,_,f4⟩:=e5 hne
  exact⟨g,p,f1,f4⟩
 case ow l z p n=>
  cases hb:m l with
  |none=>simp[hb]at hs
  |some b=>
   simp only[hb]at hs
   split at hs
   ·rename_i hh
    obtain⟨rfl,hle⟩:=hh
    cases hs
    obtain⟨A,c,e1,e2,e3,e4⟩:=hv
    have hlen:((b.rows.drop p).take n).length=n:=by simp;omega
    rcases e4 with e4|⟨g,T,mm,f1,f2,f3,f4⟩
    ·have hn:n=0:=by omega
     subst hn
     exact⟨A,c,b.z,[],by rw[e1,hlen],by omega,e3,by simpa using VRr.nil,fun h=>absurd (by simp) h,fun h=>absurd rfl h,fun _ _ h=>by cases h⟩
    rcases hm l (by simp[cc_]) b hb with⟨k1,_⟩|⟨g',arr,xs,k1,k2,k3,k4,hzz⟩|⟨g',es,ck,xs,k1,k2,_⟩
    ·rw[f1]at k1;cases k1
    ·rw[f1]at k1;cases k1
     refine⟨A,c,b.z,(xs.drop (p * b.z)).take (n * b.z),by rw[e1,hlen],by omega,e3,(k3.drop p).take n,fun _=>rfl,fun _=>⟨g,p * b.z,f2,fun j u hu=>?_⟩,fun _ _ h=>by cases h⟩
     rw[cell_of_row w g _ arr _ _ k2]
     rw[List.getElem?_take]at hu
     split at hu
     ·rw[List.getElem?_drop,←k4,List.getElem?_take]at hu
      split at hu
      ·rw[Array.getElem?_toList]at hu;exact hu
      cases hu
     cases hu
    rw[f1]at k1;cases k1
    simp[World.shape?,k2]at f3
   cases hs
theorem ln_ {P:Program} (t ty el:TypeId) (ht:P.underlying t=some (.slice el)) {z:Nat} (hz:P.cellsOf el=z) (h0:0<z) (A A2:Option Addr) (n c c2:Nat) (hn:n≤c) :
  (Builtin.append_ #[t,t] ty #[.slice A n c,.slice A2 0 c2]).run P w = .ok (.slice A n c) w:=by
 have hso:=ce_ (P:=P) w hz h0
 have hf:(Builtin.firstCells z 0 (.slice A2 0 c2)).run P w = .ok #[] w:=by
  cases A2 with
  |none=>simp[Builtin.firstCells]
  |some b=>simp[Builtin.firstCells,loadCells,loadCellsFrom]
 simp[Builtin.append_,run_underlying ht,hso,Builtin.lenOf,hn,hf]
 cases A<;>simp[storeCells]
theorem i5_ {P:Program} (t ty el:TypeId) (i:TypeInfo) (zv:Value) (ht:P.underlying t=some (.slice el)) (hi:P.info? el=some i) (hz:i.zero=some zv)
  (A:Option Addr) (n c:Nat) (olds:List Value) (hlo:olds.length=n * i.size) (hsz:0<i.size) (hold:olds≠[]→∃g p,A=some ⟨g,p,none⟩∧∀j u,olds[j]? = some u→w.cell? ⟨g,p+j,none⟩=some u) (hc:A=none→c=0)
  (a:Addr) (m c2:Nat) (news:List Value) (hl:news.length=m * i.size) (hnews:∀j v,news[j]? = some v→w.cell? (a.add j)=some v)
  (hg:c<n+m) (hnc:n≤c) (h63:n+m≤9223372036854775807) (hb:(n+m) * i.bytes≤140737488355328) :
  (Builtin.append_ #[t,t] ty #[.slice A n c,.slice (some a) m c2]).run P w =
   .ok (.slice (some ⟨w.heap.size,0,none⟩) (n+m) (grownCap w (n+m) c el))
    (w.drew.alloc (.cells (olds.toArray++news.toArray++Builtin.zeroCells zv.cells (grownCap w (n+m) c el - (n+m))) el)):=by
 cases A with
 |none=>
  obtain rfl:=hc rfl
  obtain rfl:n=0:=by omega
  have ho:olds=[]:=List.eq_nil_of_length_eq_zero (by simpa using hlo)
  subst ho
  have:=run_append_nil (P:=P) w t ty el i zv ht hi hz a m c2 news hl hnews (by omega) (by omega) (by simp only[Nat.zero_add]at hb;omega)
  simpa using this
 |some A=>
  have hold':∀j v,olds[j]? = some v→w.cell? (A.add j)=some v:=fun j v hj=>by
   have hne:olds≠[]:=fun e=>by subst e;simp at hj
   obtain⟨g,p,e,h⟩:=hold hne
   cases e
   rw[Addr.add_spot]
   exact h j v hj
  exact run_append_grow (P:=P) w t ty el i zv ht hi hz A n c olds hlo hold' a m c2 news hl hnews hg (by omega) (growslice_fits hg hb)
def appC (m:Mem) (x y:V) (el z yb:Nat):Prop:=
 match ro_ m y with
 |none=>False
 |some rows2=>(∀r∈rows2,r.length=z)∧
  match x with
  |.ow l z' p n=>z'=z∧p=0∧l ∉ cc_ y∧(match m l with|some b=>b.z=z∧b.T=el∧b.rows.length=n|none=>False)∧(n+rows2.length) * yb≤140737488355328
  |.sl true rows=>(∀r∈rows,r.length=z)∧(rows2≠[]∨rows=[])∧(rows.length+rows2.length) * yb≤140737488355328
  |_=>False
def appE (m:Mem) (x y:V) (el z l':Nat):Eff:=
 match ro_ m y with
 |none=>{ v:=.no }
 |some rows2=>
  match x with
  |.ow l _ _ n=>match m l with|some b=>{ v:=.ow l' z 0 (n+rows2.length),wr:=[(l,none),(l',some ⟨b.T,b.z,b.rows++rows2⟩)],nw:=[l'],rd:=l::cc_ y }|none=>{ v:=.no }
  |.sl _ rows=>{ v:=.ow l' z 0 (rows.length+rows2.length),wr:=[(l',some ⟨el,z,rows++rows2⟩)],nw:=[l'],rd:=cc_ y }
  |_=>{ v:=.no }
theorem cr_ {g:Nat} {arr:Array Value} {T:TypeId} {f:Nat × Nat} (h:w.heap[g]? = some (.cells arr T f)):w.shape? g=some (T,arr.size):=by simp[World.shape?,h]
theorem fe_ (w:World) (need old:Nat) (el:TypeId) (h:need≤maxLen):grownCap w need old el≤maxLen:=grownCap_le_maxLen w need old el h
theorem RelAt.grew (hr:RelAt E C φ s a w) {l':Nat} (hl:s.u l'=false) {el z:Nat} {rows:List (List V)} {xs:List Value} (hz0:0<z) (hx:VRr φ (C.S φ s.m) w z rows xs) {zv:Value} (hzv:zv.cells.size=z) {cap n:Nat} (hn:n=rows.length) (hc:n≤cap) (hm:cap≤maxLen) {arr:Array Value} (ha:arr=xs.toArray++Builtin.zeroCells zv.cells (cap - n)) :
  RelAt E C (fun x=>if x=l' then some (some w.heap.size)else φ x) ⟨s.σ,upd s.m l' (some ⟨el,z,rows⟩),fun x=>if x=l' then true else s.u x⟩ a (w.drew.alloc (.cells arr el))∧
   VR (fun x=>if x=l' then some (some w.heap.size)else φ x) (C.S (fun x=>if x=l' then some (some w.heap.size)else φ x) (upd s.m l' (some ⟨el,z,rows⟩))) (w.drew.alloc (.cells arr el)) (.ow l' z 0 n) (.slice (some ⟨w.heap.size,0,none⟩) n cap):=by
 have hd:=hr.drew
 have hx':VRr φ (C.S φ s.m) w.drew z rows xs:=hx.keep (show KeepsW φ φ _ _ w w.drew from⟨fun _ _ h=>h,fun g hg _=>⟨hg,rfl⟩,Nat.le_refl _,fun _ _ h=>h⟩)
 have ht:arr.toList.take xs.length=xs:=by rw[ha];simp
 obtain⟨k1,k2⟩:=hd.alloc hl (T:=el) hz0 hx' ht
 refine⟨k1,?_⟩
 simp only[VR]
 refine⟨_,_,rfl,hc,hm,.inr ⟨w.heap.size,el,arr.size,by simp,by simp,?_,?_⟩⟩
 ·exact cr_ (heap_alloc_new w.drew _)
 rw[ha,Array.size_append,size_zeroCells,hzv,List.size_toArray,hx.len,Nat.zero_add,←hn,←Nat.add_mul]
 exact Nat.mul_le_mul_right _ (by omega)
theorem y6_ {x y:Operand} {t el z yb l':Nat} {zc:List V} (hp:PC E o s) (ho:o.op = .call { callee:=.builtin .append,args:=#[x,y],argTypes:=#[t,t] }) (ht:(ax_ E.P t).map (·.k)=some (.sl el z yb zc)) (hz:0<z) (hyb:0<yb) (hzl:zc.length=z) (hz1:zc.all V.one=true)
  (hc:appC s.m (s.pv E x) (s.pv E y) el z yb):Op1 E o s (appE s.m (s.pv E x) (s.pv E y) el z l'):=by
 have ox:x∈o.op.operands:=by simp[ho,Op.operands,Call.operands]
 have oy:y∈o.op.operands:=by simp[ho,Op.operands,Call.operands]
 have hpx:=hp x ox
 have hpy:=hp y oy
 refine Op1.of fun s' e1 e2 e3 C φ a w hr=>?_
 have h1:=hr.pv (x:=x) (by rw[e1 x ox];exact hpx)
 have h2:=hr.pv (x:=y) (by rw[e1 y oy];exact hpy)
 have e1x:s'.pv E x=s.pv E x:=by unfold St.pv;rw[e1 x ox]
 have e1y:s'.pv E y=s.pv E y:=by unfold St.pv;rw[e1 y oy]
 rw[e1x]at h1;rw[e1y]at h2
 clear e1 e1x e1y hpx hpy ox oy hp
 generalize s.pv E x=vx at *
 generalize s.pv E y=vy at *
 obtain⟨hu,hzz,hyy,hzero⟩:=db_ ht
 obtain⟨i,zv,hi,hiz,hzv,hzn⟩:=c9_ (φ:=φ) (S:=C.S φ s'.m) (w:=w) hzero.symm hzl (dc_ hz1)
 have his:i.size=z:=by rw[hzz];simp[Program.cellsOf,hi]
 have hib:i.bytes=yb:=by rw[hyy];simp[Program.bytesOf,hi]
 have run0:∀r W,(Builtin.append_ #[t,t] o.type #[a.eval x,a.eval y]).run E.P w = .ok r W→(execOp a.eval o).run E.P w = .ok (.value r) W:=fun r W h=>by
  simp[execOp,ho,resolve,invoke,builtin,h]
 cases hs:ro_ s.m vy with
 |none=>simp[appC,hs]at hc
 |some rows2=>
  simp only[appC,hs]at hc
  obtain⟨hr2,hc⟩:=hc
  have news_at:∀ {xs2:List Value} {A2:Option Addr} {z2:Nat},VRr φ (C.S φ s'.m) w z2 rows2 xs2→rows2≠[]→(xs2≠[]→∃g p,A2=some ⟨g,p,none⟩∧∀j u,xs2[j]? = some u→w.cell? ⟨g,p+j,none⟩=some u)→
    z2=z∧∃ad,A2=some ad∧∀j u,xs2[j]? = some u→w.cell? (ad.add j)=some u:=fun {xs2 A2 z2} hv hne hA=>by
   cases rows2 with
   |nil=>exact absurd rfl hne
   |cons r rs=>
    have hz2:z2=z:=(hv.rowlen r (by simp)).symm.trans (hr2 r (by simp))
    subst hz2
    have hx:xs2≠[]:=fun e=>by
     have:=hv.len;rw[e]at this
     simp only[List.length_nil,List.length_cons,Nat.add_mul,Nat.one_mul]at this
     omega
    obtain⟨g,p,rfl,h⟩:=hA hx
    exact⟨rfl,_,rfl,fun j u hj=>by rw[Addr.add_spot];exact h j u hj⟩
  have hbnd:∀k:Nat,k * yb≤140737488355328→k≤140737488355328:=fun k hk=>Nat.le_trans (Nat.le_mul_of_pos_right k hyb) hk
  cases vx<;>try exact hc.elim
  case ow l z' p n=>
   obtain⟨rfl,rfl,hly,hblk,hby⟩:=hc
   cases hb:s.m l with
   |none=>simp[hb]at hblk
   |some b=>
    simp only[hb]at hblk
    obtain⟨hbz,hbT,hbn⟩:=hblk
    have eE:appE s.m (.ow l z' 0 n) vy el z' l'={ v:=.ow l' z' 0 (n+rows2.length),wr:=[(l,none),(l',some ⟨b.T,b.z,b.rows++rows2⟩)],nw:=[l'],rd:=l::cc_ vy }:=by simp only[appE,hs,hb]
    rw[eE]at e2 e3 ⊢
    have hb':s'.m l=some b:=by rw[e2 l (by simp)];exact hb
    have hl':s'.u l'=false:=e3 l' (by simp)
    obtain⟨A2,c2,z2,xs2,q1,q2,q3,q4,q5,q6,q7⟩:=l7_ h2 hs (fun l2 hl2 b2 hb2=>hr.mem l2 b2 (by rw[e2 l2 (by simp[hl2])];exact hb2))
    simp only[VR]at h1
    obtain⟨A,c,f1,f2,f3,f4⟩:=h1
    have hmem:=hr.mem l b hb'
    subst hbT;subst hbn
    subst hbz
    have fin:∀ {φ':Phi} {W:World} {x':Value},(execOp a.eval o).run E.P w = .ok (.value x') W→RelAt E C φ' ⟨s'.σ,upd (upd s'.m l none) l' (some ⟨b.T,b.z,b.rows++rows2⟩),fun x=>if x=l' then true else s'.u x⟩ a W→
      VR φ' (C.S φ' (upd (upd s'.m l none) l' (some ⟨b.T,b.z,b.rows++rows2⟩))) W (.ow l' b.z 0 (b.rows.length+rows2.length)) x'→
      ∃x w' φ',((execOp a.eval o).run E.P w = .ok (.value x) w'∨((execOp a.eval o).run E.P w = .ok .skip w'∧x=undef))∧RelAt E C φ' ⟨s'.σ,Eff.mem ⟨.ow l' b.z 0 (b.rows.length+rows2.length),[(l,none),(l',some ⟨b.T,b.z,b.rows++rows2⟩)],[l'],l::cc_ vy⟩ s'.m,Eff.use ⟨.ow l' b.z 0 (b.rows.length+rows2.length),[(l,none),(l',some ⟨b.T,b.z,b.rows++rows2⟩)],[l'],l::cc_ vy⟩ s'.u⟩ a w'∧
       VR φ' (C.S φ' (Eff.mem ⟨.ow l' b.z 0 (b.rows.length+rows2.length),[(l,none),(l',some ⟨b.T,b.z,b.rows++rows2⟩)],[l'],l::cc_ vy⟩ s'.m)) w' (.ow l' b.z 0 (b.rows.length+rows2.length)) x:=fun {φ' W x'} g1 g2 g3=>
     ⟨x',W,φ',.inl g1,by rw[f0_];exact g2,g3⟩
    by_cases hne:rows2=[]
    ·subst hne
     have hrun:=run0 _ _ (by rw[f1,q1];exact ln_ (w:=w) t o.type b.T hu hzz.symm hz A A2 b.rows.length c c2 f2)
     have hmv:=hr.moveTo (w':=w) hb' hl' (rows:=b.rows++[]) (by
      rcases hmem with⟨m1,m2⟩|⟨g,arr,xs,m1,m2,m3,m4,hzz⟩|⟨_,_,_,_,_,_,k1,_⟩
      ·exact .inl ⟨m1,by simpa using m2,rfl⟩
      ·exact .inr ⟨g,arr,arr,xs,m1,m2,rfl,m2,fun _ _=>rfl,rfl,⟨rfl,rfl,rfl⟩,by simpa using m3,m4⟩
      omega)
     exact fin hrun hmv (by
      simp only[VR,List.length_nil,Nat.add_zero]
      refine⟨A,c,rfl,f2,f3,?_⟩
      rcases f4 with f4|⟨g,T,mm,f4,f5⟩
      ·exact .inl f4
      exact .inr ⟨g,T,mm,by simpa using f4,f5⟩)
    obtain⟨rfl,ad,rfl,hnews⟩:=news_at q4 hne q6
    have hm0:0<rows2.length:=List.length_pos_iff.2 hne
    have hsm:=hbnd _ hby
    by_cases hroom:b.rows.length+rows2.length≤c
    ·rcases f4 with f4|⟨g,T,mm,k1,k2,k3,k4⟩
     ·omega
     subst k2
     rcases hmem with⟨m1,m2⟩|⟨g',arr,xs,m1,m2,m3,m4,hzz⟩|⟨_,_,_,_,_,_,k1,_⟩
     ·rw[k1]at m1;cases m1
     ·rw[k1]at m1;cases m1
      rw[cr_ m2]at k3
      cases k3
      have hxl:=m3.len
      have hfit:b.rows.length * b.z+xs2.length≤arr.size:=by
       rw[q4.len,←Nat.add_mul]
       exact Nat.le_trans (Nat.mul_le_mul_right _ (by omega)) k4
      have hra:=run_append_room (P:=E.P) w t o.type b.T i hu hi g b.rows.length c arr m2 ad rows2.length c2 xs2 (by rw[his];exact q4.len) hnews q4.ones hroom (by rw[his];exact hfit)
      rw[his]at hra
      have hrun:=run0 _ _ (by rw[f1,q1,Nat.zero_mul];exact hra)
      have ht:arr.toList.take (b.rows.length * b.z)=xs:=by rw[←hxl];exact m4
      have hmv:=hr.moveTo (w':=w.setRow g (arr.toList.take (b.rows.length * b.z)++xs2++arr.toList.drop (b.rows.length * b.z+xs2.length)).toArray) hb' hl' (rows:=b.rows++rows2)
       (.inr ⟨g,arr,_,xs++xs2,k1,m2,by simp;omega,setRow_heap w g arr _ b.T (0,0) m2,fun k hk=>setRow_other w g k _ hk,by simp[World.setRow],⟨rfl,rfl,rfl⟩,m3.append q4,by rw[ht];exact List.take_left⟩)
      exact fin hrun hmv (by
       simp only[VR]
       exact⟨_,c,rfl,hroom,f3,.inr ⟨g,b.T,arr.size,by simpa using k1,by simp,by rw[cr_ (setRow_heap w g arr _ b.T (0,0) m2)];simp;omega,k4⟩⟩)
     omega
    have hx:∃xs,VRr φ (C.S φ s'.m) w b.z b.rows xs∧(xs≠[]→∃g p,A=some ⟨g,p,none⟩∧∀j u,xs[j]? = some u→w.cell? ⟨g,p+j,none⟩=some u):=by
     rcases hmem with⟨m1,m2⟩|⟨g',arr,xs,m1,m2,m3,m4,hzz⟩|⟨_,_,_,_,_,_,k1,_⟩
     ·exact⟨[],by rw[m2];exact .nil,fun h=>absurd rfl h⟩
     ·refine⟨xs,m3,fun hne=>?_⟩
      rcases f4 with f4|⟨g,T,mm,k1,k2,k3,k4⟩
      ·exfalso
       have hl0:=m3.len
       have:b.rows.length=0:=by omega
       rw[this,Nat.zero_mul]at hl0
       exact hne (List.eq_nil_of_length_eq_zero hl0)
      have hgg:g=g':=by rw[k1]at m1;simpa using m1
      subst hgg
      refine⟨g,0,by rw[k2,Nat.zero_mul],fun j u hj=>?_⟩
      rw[cell_of_row w g _ arr _ _ m2,Nat.zero_add]
      rw[←m4,List.getElem?_take]at hj
      split at hj
      ·rw[Array.getElem?_toList]at hj;exact hj
      cases hj
     omega
    obtain⟨xs,m3,hxs⟩:=hx
    have hra:=i5_ (P:=E.P) (w:=w) t o.type b.T i zv hu hi hiz A b.rows.length c xs (by rw[his];exact m3.len) (by omega) hxs (fun e=>by
      rcases f4 with f4|⟨g,T,mm,k1,k2,_⟩
      ·exact f4
      rw[e]at k2;cases k2) ad rows2.length c2 xs2 (by rw[his];exact q4.len) hnews (by omega) f2 (by omega) (by rw[hib];exact hby)
    have hrun:=run0 _ _ (by rw[f1,q1];exact hra)
    obtain⟨r1,r2⟩:=hr.erase l
    obtain⟨t1,t2⟩:=r1.grew (l':=l') hl' (el:=b.T) (z:=b.z) (rows:=b.rows++rows2) (xs:=xs++xs2) hz ((m3.append q4).keep r2) (zv:=zv) hzn (cap:=grownCap w (b.rows.length+rows2.length) c b.T) (n:=b.rows.length+rows2.length) (by simp) (grownCap_ge w _ _ _) (fe_ w _ _ _ (by unfold maxLen;omega)) rfl
    exact fin (φ':=fun x=>if x=l' then some (some w.heap.size)else φ x) hrun (by simpa using t1) (by simpa using t2)
  case sl tt rows=>
   cases tt with
   |false=>exact hc.elim
   |true=>
    obtain⟨hrz,hne0,hby⟩:=hc
    have eE:appE s.m (.sl true rows) vy el z l'={ v:=.ow l' z 0 (rows.length+rows2.length),wr:=[(l',some ⟨el,z,rows++rows2⟩)],nw:=[l'],rd:=cc_ vy }:=by simp only[appE,hs]
    rw[eE]at e2 e3 ⊢
    have hl':s'.u l'=false:=e3 l' (by simp)
    obtain⟨A2,c2,z2,xs2,q1,q2,q3,q4,q5,q6,q7⟩:=l7_ h2 hs (fun l2 hl2 b2 hb2=>hr.mem l2 b2 (by rw[e2 l2 (by simp[hl2])];exact hb2))
    simp only[VR]at h1
    obtain⟨A,c,z1,xs,f1,f2,f3,f4,f5,f6⟩:=h1
    have f4:=f4 trivial
    by_cases hne:rows2=[]
    ·subst hne
     have hr0:rows=[]:=hne0.resolve_left (by simp)
     subst hr0
     have hrun:=run0 _ _ (by rw[f1,q1];exact ln_ (w:=w) t o.type el hu hzz.symm hz A A2 0 c c2 (Nat.zero_le _))
     refine⟨_,w,_,.inl hrun,by rw[f0_];exact hr.empty hl' el z,?_⟩
     simp only[VR]
     exact⟨A,c,rfl,Nat.zero_le _,f3,.inl (by simpa using f4)⟩
    obtain⟨rfl,ad,rfl,hnews⟩:=news_at q4 hne q6
    have hm0:0<rows2.length:=List.length_pos_iff.2 hne
    have hsm:=hbnd _ hby
    have hxl:xs.length=rows.length * z2:=by
     cases rows with
     |nil=>have:=f6.len;simpa using this
     |cons r rs=>rw[f6.len,←f6.rowlen r (by simp),hrz r (by simp)]
    have hx:VRr φ (C.S φ s'.m) w z2 rows xs:=by
     cases rows with
     |nil=>simp only[VRr]at f6 ⊢;exact f6
     |cons r rs=>
      have:z1=z2:=(f6.rowlen r (by simp)).symm.trans (hrz r (by simp))
      rw[←this];exact f6
    have hA:xs≠[]→∃g p,A=some ⟨g,p,none⟩∧∀j u,xs[j]? = some u→w.cell? ⟨g,p+j,none⟩=some u:=fun h=>by
     obtain⟨g,p,h1,_,_,h4⟩:=f5 h
     exact⟨g,p,h1,h4⟩
    have hra:=i5_ (P:=E.P) (w:=w) t o.type el i zv hu hi hiz A rows.length c xs (by rw[his];exact hxl) (by omega) hA (fun e=>by
      subst e
      have hx0:xs=[]:=Classical.byContradiction fun h=>by obtain⟨g,p,h1,_⟩:=hA h;cases h1
      rw[hx0]at hxl
      simp only[List.length_nil]at hxl
      have hpos:¬0<rows.length:=fun hp=>by have:=Nat.mul_pos hp hz;omega
      omega) ad rows2.length c2 xs2 (by rw[his];exact q4.len) hnews (by omega) f2 (by omega) (by rw[hib];exact hby)
    have hrun:=run0 _ _ (by rw[f1,q1];exact hra)
    obtain⟨t1,t2⟩:=hr.grew (l':=l') hl' (el:=el) (z:=z2) (rows:=rows++rows2) (xs:=xs++xs2) hz (hx.append q4) (zv:=zv) hzn (cap:=grownCap w (rows.length+rows2.length) c el) (n:=rows.length+rows2.length) (by simp) (grownCap_ge w _ _ _) (fe_ w _ _ _ (by unfold maxLen;omega)) rfl
    have e0:(xs++xs2).toArray=xs.toArray++xs2.toArray:=by simp
    rw[e0]at t1 t2
    exact⟨_,_,_,.inl hrun,by rw[f0_];exact t1,t2⟩
def mkE (l' el z:Nat) (zc:List V) (n:Nat):Eff:={ v:=.ow l' z 0 n,wr:=[(l',some ⟨el,z,List.replicate n zc⟩)],nw:=[l'] }
theorem abd_ {x y:Operand} {t el z yb l':Nat} {zc:List V} {n:Int} {k k':IntKind} (hp:PC E o s) (ho:o.op = .makeSlice t x y) (ht:(ax_ E.P t).map (·.k)=some (.sl el z yb zc)) (hz:0<z) (hzl:zc.length=z) (hz1:zc.all V.one=true)
  (hx:s.pv E x = .i k n) (hy:s.pv E y = .i k' n) (h0:0≤n) (hb:n * yb≤140737488355328) (hyb:0<yb):Op1 E o s (mkE l' el z zc n.toNat):=by
 have ox:x∈o.op.operands:=by simp[ho,Op.operands]
 have oy:y∈o.op.operands:=by simp[ho,Op.operands]
 have hpx:=hp x ox
 have hpy:=hp y oy
 refine Op1.of fun s' e1 e2 e3 C φ a w hr=>?_
 have h1:=hr.pv (x:=x) (by rw[e1 x ox];exact hpx)
 have h2:=hr.pv (x:=y) (by rw[e1 y oy];exact hpy)
 have e1x:s'.pv E x=s.pv E x:=by unfold St.pv;rw[e1 x ox]
 have e1y:s'.pv E y=s.pv E y:=by unfold St.pv;rw[e1 y oy]
 rw[e1x,hx]at h1;rw[e1y,hy]at h2
 simp only[VR]at h1 h2
 obtain⟨hu,hzz,hyy,hzero⟩:=db_ ht
 obtain⟨i,zv,hi,hiz,hzv,hzn⟩:=c9_ (φ:=φ) (S:=C.S φ s'.m) (w:=w) hzero.symm hzl (dc_ hz1)
 have his:i.size=z:=by rw[hzz];simp[Program.cellsOf,hi]
 have hib:i.bytes=yb:=by rw[hyy];simp[Program.bytesOf,hi]
 have hn:n≤140737488355328:=Int.le_trans (by
  have h3:n * 1≤n * (yb:Int):=Int.mul_le_mul_of_nonneg_left (by omega) h0
  simpa using h3) hb
 have hrun:=run_make (P:=E.P) w t el i zv hu hi hiz k k' n n h0 (Int.le_refl _) (by rw[hib,Int.mul_comm];omega) (by omega)
 have hmc:=go_ zv.cells n.toNat (by omega)
 rw[hzn]at hmc
 have hrep:=VRr.replicate hzl hzv (hzv.ones hz1) n.toNat
 rw[←hmc]at hrep
 obtain⟨k1,k2⟩:=hr.alloc (e3 l' (by simp[mkE])) (arr:=madeCells zv.cells (n.toNat * z)) (T:=el) hz hrep (List.take_length)
 rw[his]at hrun
 have hrun':(execOp a.eval o).run E.P w = .ok (.value (.slice (some ⟨w.heap.size,0,none⟩) n.toNat n.toNat)) (w.alloc (.cells (madeCells zv.cells (n.toNat * z)) el)):=by
  simp only[execOp,ho,h1,h2,Sem.run_bind,hrun,Result.andThen_ok,Sem.run_pure]
 refine⟨_,_,_,.inl hrun',by simp only[mkE];rw[f0_];exact k1,?_⟩
 simp only[mkE,VR]
 refine⟨_,_,rfl,Nat.le_refl _,by unfold maxLen;omega,.inr ⟨w.heap.size,el,(madeCells zv.cells (n.toNat * z)).size,by simp,by simp,cr_ (heap_alloc_new w _),by rw[size_madeCells,Nat.zero_add];exact Nat.le_refl _⟩⟩
end
end
section
open Go.RowKit
mutual
def V.pure:V→Bool
 |.ow _ _ _ _|.pt _ _ _ _=>false
 |.sl _ rows=>bg_ rows
 |.rp cs|.ag cs|.tu cs=>bu_ cs
 |.fn _ a c=>bu_ a&&bu_ c
 |.gd _ v=>V.pure v
 |_=>true
def bu_:List V→Bool
 |[]=>true
 |v::r=>V.pure v&&bu_ r
def bg_:List (List V)→Bool
 |[]=>true
 |v::r=>bu_ v&&bg_ r
end
mutual
def rn (η:List Nat):V→V
 |.ow l z o n=>.ow (η.getD l 0) z o n
 |.pt l z r c=>.pt (η.getD l 0) z r c
 |.sl t rows=>.sl t (rnr η rows)
 |.rp cs=>.rp (rns η cs)
 |.ag cs=>.ag (rns η cs)
 |.tu cs=>.tu (rns η cs)
 |.fn f a c=>.fn f (rns η a) (rns η c)
 |.gd c v=>.gd c (rn η v)
 |.i k n=>.i k n
 |.b x=>.b x
 |.s l=>.s l
 |.np=>.np
 |.q P=>.q P
 |.no=>.no
def rns (η:List Nat):List V→List V
 |[]=>[]
 |v::r=>rn η v::rns η r
def rnr (η:List Nat):List (List V)→List (List V)
 |[]=>[]
 |v::r=>rns η v::rnr η r
end
mutual
def V.cl (k:Nat):V→Bool
 |.ow l _ _ _|.pt l _ _ _=>decide (l<k)
 |.sl _ rows=>clr k rows
 |.rp cs|.ag cs|.tu cs=>cls k cs
 |.fn _ a c=>cls k a&&cls k c
 |.gd _ v=>V.cl k v
 |_=>true
def cls (k:Nat):List V→Bool
 |[]=>true
 |v::r=>V.cl k v&&cls k r
def clr (k:Nat):List (List V)→Bool
 |[]=>true
 |v::r=>cls k v&&clr k r
end
mutual
theorem ak7_ (η:List Nat):∀v:V,v.pure=true→rn η v=v
 |.ow _ _ _ _,h|.pt _ _ _ _,h=>by simp[V.pure]at h
 |.sl t rows,h=>by simp only[V.pure]at h;simp only[rn,b7_ η rows h]
 |.rp cs,h=>by simp only[V.pure]at h;simp only[rn,ej_ η cs h]
 |.ag cs,h=>by simp only[V.pure]at h;simp only[rn,ej_ η cs h]
 |.tu cs,h=>by simp only[V.pure]at h;simp only[rn,ej_ η cs h]
 |.fn f a c,h=>by simp only[V.pure,Bool.and_eq_true]at h;simp only[rn,ej_ η a h.1,ej_ η c h.2]
 |.gd c v,h=>by simp only[V.pure]at h;simp only[rn,ak7_ η v h]
 |.i _ _,_|.b _,_|.s _,_|.np,_|.no,_|.q _,_=>by simp only[rn]
theorem ej_ (η:List Nat):∀v:List V,bu_ v=true→rns η v=v
 |[],_=>by simp only[rns]
 |v::r,h=>by simp only[bu_,Bool.and_eq_true]at h;simp only[rns,ak7_ η v h.1,ej_ η r h.2]
theorem b7_ (η:List Nat):∀v:List (List V),bg_ v=true→rnr η v=v
 |[],_=>by simp only[rnr]
 |v::r,h=>by simp only[bg_,Bool.and_eq_true]at h;simp only[rnr,ej_ η v h.1,b7_ η r h.2]
end
mutual
theorem amf_ (k:Nat):∀v:V,v.pure=true→v.cl k=true
 |.ow _ _ _ _,h|.pt _ _ _ _,h=>by simp[V.pure]at h
 |.sl t rows,h=>by simp only[V.pure]at h;simp only[V.cl,ks_ k rows h]
 |.rp cs,h=>by simp only[V.pure]at h;simp only[V.cl,em_ k cs h]
 |.ag cs,h=>by simp only[V.pure]at h;simp only[V.cl,em_ k cs h]
 |.tu cs,h=>by simp only[V.pure]at h;simp only[V.cl,em_ k cs h]
 |.fn f a c,h=>by simp only[V.pure,Bool.and_eq_true]at h;simp only[V.cl,em_ k a h.1,em_ k c h.2,Bool.and_true]
 |.gd c v,h=>by simp only[V.pure]at h;simp only[V.cl,amf_ k v h]
 |.i _ _,_|.b _,_|.s _,_|.np,_|.no,_|.q _,_=>by simp only[V.cl]
theorem em_ (k:Nat):∀v:List V,bu_ v=true→cls k v=true
 |[],_=>by simp only[cls]
 |v::r,h=>by simp only[bu_,Bool.and_eq_true]at h;simp only[cls,amf_ k v h.1,em_ k r h.2,Bool.and_true]
theorem ks_ (k:Nat):∀v:List (List V),bg_ v=true→clr k v=true
 |[],_=>by simp only[clr]
 |v::r,h=>by simp only[bg_,Bool.and_eq_true]at h;simp only[clr,em_ k v h.1,ks_ k r h.2,Bool.and_true]
end
def cz_ (η:List Nat) (φ:Phi):Phi:=fun i=>match η[i]? with|some n=>φ n|none=>none
section
variable {φ ψ:Phi} {S:Nat→Prop} {w:World} {η:List Nat}
theorem b2_ {i:Nat} (h:i<η.length):cz_ η φ i=φ (η.getD i 0):=by
 simp[cz_,List.getElem?_eq_getElem h]
mutual
theorem VR.rn (hφ:∀i,i<η.length→ψ i=φ (η.getD i 0)):∀ {v:V} {x:Value},v.cl η.length=true→(VR ψ S w v x↔VR φ S w (Go.Proofs.YthjccajoadjicaaGreatDoor.rn η v) x)
 |.ow l z o n,x,h=>by simp only[V.cl,decide_eq_true_eq]at h;simp only[Go.Proofs.YthjccajoadjicaaGreatDoor.rn,VR,hφ l h]
 |.pt l z o n,x,h=>by simp only[V.cl,decide_eq_true_eq]at h;simp only[Go.Proofs.YthjccajoadjicaaGreatDoor.rn,VR,hφ l h]
 |.sl t rows,x,h=>by
  simp only[V.cl]at h
  have hl:(rnr η rows).length=rows.length:=ak6_ rows
  simp only[Go.Proofs.YthjccajoadjicaaGreatDoor.rn,VR,hl]
  exact⟨fun⟨A,c,z,xs,h1,h2,h3,h4,h5,h6⟩=>⟨A,c,z,xs,h1,h2,h3,h4,h5,(VRr.rn hφ h).1 h6⟩,fun⟨A,c,z,xs,h1,h2,h3,h4,h5,h6⟩=>⟨A,c,z,xs,h1,h2,h3,h4,h5,(VRr.rn hφ h).2 h6⟩⟩
 |.rp cs,x,h=>by
  simp only[V.cl]at h
  simp only[Go.Proofs.YthjccajoadjicaaGreatDoor.rn,VR]
  exact⟨fun⟨g,o,xs,h1,h2,h3,h4,h5⟩=>⟨g,o,xs,h1,h2,h3,h4,(VRs.rn hφ h).1 h5⟩,fun⟨g,o,xs,h1,h2,h3,h4,h5⟩=>⟨g,o,xs,h1,h2,h3,h4,(VRs.rn hφ h).2 h5⟩⟩
 |.ag cs,x,h=>by
  simp only[V.cl]at h
  simp only[Go.Proofs.YthjccajoadjicaaGreatDoor.rn,VR]
  exact⟨fun⟨xs,h1,h2⟩=>⟨xs,h1,(VRs.rn hφ h).1 h2⟩,fun⟨xs,h1,h2⟩=>⟨xs,h1,(VRs.rn hφ h).2 h2⟩⟩
 |.tu cs,x,h=>by
  simp only[V.cl]at h
  simp only[Go.Proofs.YthjccajoadjicaaGreatDoor.rn,VR]
  exact⟨fun⟨xs,h1,h2⟩=>⟨xs,h1,(VRs.rn hφ h).1 h2⟩,fun⟨xs,h1,h2⟩=>⟨xs,h1,(VRs.rn hφ h).2 h2⟩⟩
 |.fn f a c,x,h=>by
  simp only[V.cl,Bool.and_eq_true]at h
  simp only[Go.Proofs.YthjccajoadjicaaGreatDoor.rn,VR]
  exact⟨fun⟨a',c',h1,h2,h3⟩=>⟨a',c',h1,(VRs.rn hφ h.1).1 h2,(VRs.rn hφ h.2).1 h3⟩,fun⟨a',c',h1,h2,h3⟩=>⟨a',c',h1,(VRs.rn hφ h.1).2 h2,(VRs.rn hφ h.2).2 h3⟩⟩
 |.gd c v,x,h=>by
  simp only[V.cl]at h
  simp only[Go.Proofs.YthjccajoadjicaaGreatDoor.rn,VR]
  exact⟨fun h1=>⟨fun hc=>(VR.rn hφ h).1 (h1.1 hc),h1.2⟩,fun h1=>⟨fun hc=>(VR.rn hφ h).2 (h1.1 hc),h1.2⟩⟩
 |.i _ _,_,_|.b _,_,_|.s _,_,_|.np,_,_|.no,_,_|.q _,_,_=>by simp only[Go.Proofs.YthjccajoadjicaaGreatDoor.rn,VR]
theorem VRs.rn (hφ:∀i,i<η.length→ψ i=φ (η.getD i 0)):∀ {vs:List V} {xs:List Value},cls η.length vs=true→(VRs ψ S w vs xs↔VRs φ S w (rns η vs) xs)
 |[],_,_=>by simp only[rns,VRs]
 |v::vs,xs,h=>by
  simp only[cls,Bool.and_eq_true]at h
  simp only[rns,VRs]
  exact⟨fun⟨x,r,h1,h2,h3⟩=>⟨x,r,h1,(VR.rn hφ h.1).1 h2,(VRs.rn hφ h.2).1 h3⟩,fun⟨x,r,h1,h2,h3⟩=>⟨x,r,h1,(VR.rn hφ h.1).2 h2,(VRs.rn hφ h.2).2 h3⟩⟩
theorem VRr.rn (hφ:∀i,i<η.length→ψ i=φ (η.getD i 0)) {z:Nat}:∀ {rs:List (List V)} {xs:List Value},clr η.length rs=true→(VRr ψ S w z rs xs↔VRr φ S w z (rnr η rs) xs)
 |[],_,_=>by simp only[rnr,VRr]
 |r::rs,xs,h=>by
  simp only[clr,Bool.and_eq_true]at h
  simp only[rnr,VRr]
  exact⟨fun⟨ys,zs,h1,h2,h3,h4,h5⟩=>⟨ys,zs,h1,by rw[acd_];exact h2,(VRs.rn hφ h.1).1 h3,h4,(VRr.rn hφ h.2).1 h5⟩,fun⟨ys,zs,h1,h2,h3,h4,h5⟩=>⟨ys,zs,h1,by rw[acd_]at h2;exact h2,(VRs.rn hφ h.1).2 h3,h4,(VRr.rn hφ h.2).2 h5⟩⟩
theorem acd_:∀vs:List V,(rns η vs).length=vs.length
 |[]=>by simp only[rns]
 |v::r=>by simp only[rns,List.length_cons,acd_ r]
theorem ak6_:∀vs:List (List V),(rnr η vs).length=vs.length
 |[]=>by simp only[rnr]
 |v::r=>by simp only[rnr,List.length_cons,ak6_ r]
end
end
def lq_ (L:List Blk):Mem:=fun i=>L[i]?
def ga_:List Value→Value
 |[x]=>x
 |xs=>.tuple xs.toArray
def if_:List V→V
 |[x]=>x
 |xs=>.tu xs
theorem VRs.wrap {φ:Phi} {S:Nat→Prop} {w:World} {vs:List V} {xs:List Value} (h:VRs φ S w vs xs):VR φ S w (if_ vs) (ga_ xs):=by
 match vs,xs,h with
 |[],xs,h=>simp only[VRs]at h;subst h;simp only[if_,ga_,VR];exact⟨#[],rfl,.nil⟩
 |[v],xs,h=>
  simp only[VRs]at h
  obtain⟨x,r,rfl,h1,rfl⟩:=h
  exact h1
 |v::u::vs,xs,h=>
  have h':=h
  simp only[VRs]at h
  obtain⟨x,r,rfl,h1,y,r',rfl,h2,h3⟩:=h
  simp only[if_,ga_,VR]
  exact⟨_,rfl,by simpa using h'⟩
structure Pre (E:Env) (φ:Phi) (S:Nat→Prop) (w:World) (vs:List V) (L0:List Blk) (args:Array Value):Prop where
 args:VRs φ S w vs args.toList
 mem:∀i b,L0[i]? = some b→MR φ S w i b
 inj:∀i j g,i<L0.length→j<L0.length→φ i=some (some g)→φ j=some (some g)→i=j
 free:∀g,S g→wi_ φ (lq_ L0) g
 glob:∀g cs,E.G g=some cs→VR (fun _=>none) S w (.rp cs) (.pointer (some ⟨g,0,none⟩))
 low:∀l,φ l≠none→l<L0.length
 lad:∃B,E.H B w∧B≤w.heap.size∧∀i g,φ i=some (some g)→B≤g
def rs_ (φ:Phi) (L0:List Blk) (g:Nat):Prop:=∃i,i<L0.length∧φ i=some (some g)
def SOf (φr:Phi) (S:Nat→Prop) (w:World) (Lr:List Blk) (g:Nat):Prop:=(S g∨w.heap.size≤g)∧wi_ φr (lq_ Lr) g
structure Post (φ:Phi) (S:Nat→Prop) (w:World) (L0:List Blk) (rs:List V) (Lr:List Blk) (φr:Phi) (xs:List Value) (w':World):Prop where
 same:∀i,i<L0.length→φr i=φ i
 res:VRs φr (SOf φr S w Lr) w' rs xs
 mem:∀i b,Lr[i]? = some b→MR φr (SOf φr S w Lr) w' i b
 new:∀i g,L0.length≤i→φr i=some (some g)→w.heap.size≤g
 inj:∀i j g,i<Lr.length→j<Lr.length→φr i=some (some g)→φr j=some (some g)→i=j
 frame:FrameW (rs_ φ L0) w w'
def ACall (E:Env) (f:FuncId) (vs:List V) (L0:List Blk) (rs:List V) (Lr:List Blk):Prop:=
 (∀args w,(callFunc f args).run E.P w = .ok (.enter f args) w)∧
 ∀φ S w args,Pre E φ S w vs L0 args→Calls E.P f args w fun e w'=>∃xs φr,e = .returned (ga_ xs)∧Post φ S w L0 rs Lr φr xs w'
def rnB (η:List Nat) (b:Blk):Blk:={ b with rows:=rnr η b.rows }
section
variable {φ ψ:Phi} {S:Nat→Prop} {w:World} {η:List Nat}
theorem MR.rn {l:Nat} {b:Blk} (hφ:∀i,i<η.length→ψ i=φ (η.getD i 0)) (hl:l<η.length) (hc:clr η.length b.rows=true):MR ψ S w l b↔MR φ S w (η.getD l 0) (rnB η b):=by
 simp only[MR,rnB,hφ l hl]
 have hnil:b.rows=[]↔rnr η b.rows=[]:=by cases b.rows<;>simp[rnr]
 constructor
 ·rintro(⟨h1,h2⟩|⟨g,arr,xs,h1,h2,h3,h4,hzz⟩|⟨g,es,ck,xs,h1,h2,h3,h4,h5⟩)
  ·exact .inl ⟨h1,hnil.1 h2⟩
  ·exact .inr (.inl ⟨g,arr,xs,h1,h2,(VRr.rn hφ hc).1 h3,h4,hzz⟩)
  exact .inr (.inr ⟨g,es,ck,xs,h1,h2,h3,(VRr.rn hφ hc).1 h4,h5⟩)
 rintro(⟨h1,h2⟩|⟨g,arr,xs,h1,h2,h3,h4,hzz⟩|⟨g,es,ck,xs,h1,h2,h3,h4,h5⟩)
 ·exact .inl ⟨h1,hnil.2 h2⟩
 ·exact .inr (.inl ⟨g,arr,xs,h1,h2,(VRr.rn hφ hc).2 h3,h4,hzz⟩)
 exact .inr (.inr ⟨g,es,ck,xs,h1,h2,h3,(VRr.rn hφ hc).2 h4,h5⟩)
end
theorem eg_ {x:Nat}:∀(l:List (Nat × Option Blk)) (m:Mem),(∀p∈l,p.1≠x)→(l.foldl (fun m p=>upd m p.1 p.2) m) x=m x
 |[],_,_=>rfl
 |p::l,m,h=>by
  rw[List.foldl_cons,eg_ l _ (fun q hq=>h q (by simp[hq])),bs_ _ (Ne.symm (h p (by simp)))]
theorem aay_ {x:Nat} {b:Option Blk}:∀(l:List (Nat × Option Blk)) (m:Mem),(l.map (·.1)).Nodup→(x,b)∈l→(l.foldl (fun m p=>upd m p.1 p.2) m) x=b
 |[],_,_,h=>by cases h
 |p::l,m,hn,h=>by
  rw[List.map_cons,List.nodup_cons]at hn
  rcases List.mem_cons.1 h with rfl|h
  ·rw[List.foldl_cons,eg_ l _ (fun q hq e=>hn.1 (by rw[←e];exact List.mem_map.2 ⟨q,hq,rfl⟩)),dd_]
  rw[List.foldl_cons];exact aay_ l _ hn.2 h
end
section
open Go.RowKit
def ez_ (η η':List Nat) (rs:List V) (Lr:List Blk):Eff:=
 { v:=if_ (rns η' rs),wr:=η'.zip (Lr.map fun b=>some (rnB η' b)),nw:=η'.drop η.length,rd:=η }
section
variable {E:Env} {C:Cx} {φ:Phi} {s:St} {a:Act} {w w':World} {o:Oper}
theorem RelAt.called (hr:RelAt E C φ s a w) {η η':List Nat} {L0 Lr:List Blk} {rs:List V} {xs:List Value} {φr:Phi} (hη:η.length=L0.length) (hpre:η'.take η.length=η) (hlr:η'.length=Lr.length) (hle:η.length≤η'.length) (hnd:η'.Nodup)
  (hm0:∀i b,L0[i]? = some b→s.m (η.getD i 0)=some (rnB η b)) (hnew:∀l∈η'.drop η.length,s.u l=false)
  (hcl:cls η'.length rs=true) (hclr:∀b∈Lr,clr η'.length b.rows=true) (hp:Post (cz_ η φ) (C.S φ s.m) w L0 rs Lr φr xs w') :
  ∃φ',RelAt E C φ' ⟨s.σ,(ez_ η η' rs Lr).mem s.m,(ez_ η η' rs Lr).use s.u⟩ a w'∧VR φ' (C.S φ' ((ez_ η η' rs Lr).mem s.m)) w' (if_ (rns η' rs)) (ga_ xs):=by
 have hget:∀i,i<η.length→η'.getD i 0=η.getD i 0:=fun i hi=>by
  rw[List.getD_eq_getElem?_getD,List.getD_eq_getElem?_getD,←hpre,List.getElem?_take_of_lt hi]
 have hin:∀i,i<η'.length→η'.getD i 0∈η':=fun i hi=>by
  rw[List.getD_eq_getElem?_getD,List.getElem?_eq_getElem hi];exact List.getElem_mem hi
 have hold:∀i,i<η.length→∃b,s.m (η.getD i 0)=some b:=fun i hi=>by
  have h1:i<L0.length:=by omega
  exact⟨_,hm0 i L0[i] (List.getElem?_eq_getElem h1)⟩
 have hused:∀i,i<η.length→φ (η.getD i 0)≠none:=fun i hi hn=>by
  obtain⟨b,hb⟩:=hold i hi
  exact(hr.mem _ b hb).name hn
 have hdrop:∀i,η.length≤i→i<η'.length→η'.getD i 0∈η'.drop η.length:=fun i h1 h2=>by
  rw[List.getD_eq_getElem?_getD,List.getElem?_eq_getElem h2,Option.getD_some]
  have:(η'.drop η.length)[i - η.length]? = some η'[i]:=by rw[List.getElem?_drop,show η.length+(i - η.length)=i by omega,List.getElem?_eq_getElem h2]
  exact List.mem_of_getElem? this
 have hfresh:∀i,η.length≤i→i<η'.length→φ (η'.getD i 0)=none:=fun i h1 h2=>by
  cases hh:φ (η'.getD i 0)with
  |none=>rfl
  |some x=>
   have:=hr.used _ (by rw[hh];simp)
   rw[hnew _ (hdrop i h1 h2)]at this
   cases this
 have hidx:∀i j,i<η'.length→j<η'.length→η'.getD i 0=η'.getD j 0→i=j:=fun i j hi hj h=>by
  rw[List.getD_eq_getElem?_getD,List.getD_eq_getElem?_getD,List.getElem?_eq_getElem hi,List.getElem?_eq_getElem hj]at h
  exact(List.getElem_inj hnd).1 h
 -- the caller's places behind the call
 let φ':Phi:=fun x=>if x∈η'.drop η.length then φr (η'.idxOf x)else φ x
 have hφ':∀i,i<η'.length→φr i=φ' (η'.getD i 0):=fun i hi=>by
  by_cases h1:i<η.length
  ·have hn:η'.getD i 0 ∉ η'.drop η.length:=fun hm=>by
    have:=hnew _ hm
    rw[hget i h1]at this
    have h2:=hr.used _ (hused i h1)
    rw[h2]at this;cases this
   simp only[φ',hn,if_false]
   rw[hp.same i (by omega),b2_ h1,hget i h1]
  have hm:=hdrop i (by omega) hi
  simp only[φ',hm,if_true]
  congr 1
  rw[List.getD_eq_getElem?_getD,List.getElem?_eq_getElem hi,Option.getD_some]
  exact(hnd.idxOf_getElem i hi).symm
 have hphi:∀x y,φ x=some y→φ' x=some y:=fun x y hxy=>by
  have hn:x ∉ η'.drop η.length:=fun hm=>by
   have h1:=hnew x hm
   have h2:=hr.used x (by rw[hxy];simp)
   rw[h1]at h2;cases h2
  simp only[φ',hn,if_false];exact hxy
 have hother:∀x,x ∉ η'→φ' x=φ x:=fun x hx=>by
  have hn:x ∉ η'.drop η.length:=fun hm=>hx (List.mem_of_mem_drop hm)
  simp only[φ',hn,if_false]
 -- its memory
 have hzip:(η'.zip (Lr.map fun b=>some (rnB η' b))).map (·.1)=η':=by
  rw[List.map_fst_zip (by simp;omega)]
 have hm1:∀i b,Lr[i]? = some b→(ez_ η η' rs Lr).mem s.m (η'.getD i 0)=some (rnB η' b):=fun i b hb=>by
  have hi:i<η'.length:=by rw[hlr];exact(List.getElem?_eq_some_iff.1 hb).1
  refine aay_ _ _ (by simp only[ez_];rw[hzip];exact hnd) ?_
  refine List.mem_of_getElem? (i:=i) ?_
  simp only[ez_]
  rw[List.getElem?_zip_eq_some]
  exact⟨by rw[List.getD_eq_getElem?_getD,List.getElem?_eq_getElem hi];rfl,by simp[hb]⟩
 have hm2:∀x,x ∉ η'→(ez_ η η' rs Lr).mem s.m x=s.m x:=fun x hx=>
  eg_ _ _ (fun p hp e=>hx (by rw[←hzip,←e];exact List.mem_map.2 ⟨p,hp,rfl⟩))
 have hcase:∀x b,(ez_ η η' rs Lr).mem s.m x=some b→(∃i c,i<η'.length∧x=η'.getD i 0∧Lr[i]? = some c∧b=rnB η' c)∨(x ∉ η'∧s.m x=some b):=fun x b hb=>by
  by_cases hx:x∈η'
  ·obtain⟨i,hi,rfl⟩:=List.mem_iff_getElem.1 hx
   have hl:i<Lr.length:=by omega
   have e:η'.getD i 0=η'[i]:=by rw[List.getD_eq_getElem?_getD,List.getElem?_eq_getElem hi];rfl
   have:=hm1 i Lr[i] (List.getElem?_eq_getElem hl)
   rw[e,hb]at this
   exact .inl ⟨i,Lr[i],hi,e.symm,List.getElem?_eq_getElem hl,by simpa using this⟩
  exact .inr ⟨hx,by rw[←hm2 x hx];exact hb⟩
 have hPb:∀g,rs_ (cz_ η φ) L0 g→∃i,i<η.length∧φ (η.getD i 0)=some (some g):=fun g ⟨i,hi,h1⟩=>by
  rw[b2_ (by omega)]at h1;exact⟨i,by omega,h1⟩
 have hnotPb:∀x b g,x ∉ η'→s.m x=some b→φ x=some (some g)→¬rs_ (cz_ η φ) L0 g:=fun x b g hx hb hg hpb=>by
  obtain⟨i,hi,h1⟩:=hPb g hpb
  obtain⟨c,hc⟩:=hold i hi
  have:=hr.inj x _ b c g hb hc hg h1
  exact hx (by rw[this,←hget i hi];exact hin i (by omega))
 have hfreeS:∀g,C.S φ s.m g→¬rs_ (cz_ η φ) L0 g:=fun g hg hpb=>by
  obtain⟨i,hi,h1⟩:=hPb g hpb
  obtain⟨c,hc⟩:=hold i hi
  exact hg.2 _ c hc h1
 have hFree:∀g,(C.S φ s.m g∧g<w.heap.size)∨SOf φr (C.S φ s.m) w Lr g→C.S φ' ((ez_ η η' rs Lr).mem s.m) g:=fun g hg=>by
  refine⟨?_,fun x b hb h1=>?_⟩
  ·rcases hg with hg|hg
   ·exact hg.1.1
   rcases hg.1 with h1|h1
   ·exact h1.1
   exact .inr (Nat.le_trans hr.frame.size h1)
  rcases hcase x b hb with⟨i,c,hi,rfl,hc,rfl⟩|⟨hx,hb'⟩
  ·rw[←hφ' i hi]at h1
   rcases hg with⟨hg,hlt⟩|hg
   ·by_cases hik:i<η.length
    ·rw[hp.same i (by omega),b2_ hik]at h1
     obtain⟨c',hc'⟩:=hold i hik
     exact hg.2 _ c' hc' h1
    have:=hp.new i g (by omega) h1;omega
   exact hg.2 i c hc h1
  rw[hother x hx]at h1
  rcases hg with⟨hg,_⟩|hg
  ·exact hg.2 x b hb' h1
  rcases hg.1 with h2|h2
  ·exact h2.2 x b hb' h1
  have:=(hr.mem x b hb').lt h1;omega
 have hset:∀g,C.S φ s.m g→g<w.heap.size→C.S φ' ((ez_ η η' rs Lr).mem s.m) g∧w'.heap[g]? = w.heap[g]?:=fun g hg hlt=>
  ⟨hFree g (.inl ⟨hg,hlt⟩),hp.frame.block g hlt (hfreeS g hg)⟩
 have hkeep:KeepsW φ' φ' (SOf φr (C.S φ s.m) w Lr) (C.S φ' ((ez_ η η' rs Lr).mem s.m)) w' w':=⟨fun _ _ h=>h,fun g hg _=>⟨hFree g (.inr hg),rfl⟩,Nat.le_refl _,fun _ _ h=>h⟩
 refine⟨φ',hr.step hphi (fun x hx=>?_) hset hp.frame (fun g hpb=>?_) (fun x b hb=>?_) (fun x x' b b' g h1 h2 h3 h4=>?_) (fun x b g hb hg=>?_),?_⟩
 ·simp only[ez_,Eff.use,Bool.or_eq_true]
  by_cases hm:x∈η'.drop η.length
  ·exact .inr (by simpa using hm)
  simp only[φ',hm,if_false]at hx;exact .inl (hr.used x hx)
 ·obtain⟨i,hi,h1⟩:=hPb g hpb
  obtain⟨c,hc⟩:=hold i hi
  exact hr.own _ c g hc h1
 ·rcases hcase x b hb with⟨i,c,hi,rfl,hc,rfl⟩|⟨hx,hb'⟩
  ·refine .inr (MR.keep hkeep (fun _ _=>rfl) ?_)
   exact(MR.rn (η:=η') hφ' hi (hclr c (List.mem_of_getElem? hc))).1 (hp.mem i c hc)
  exact .inl ⟨hb',fun g hg=>hp.frame.block g ((hr.mem x b hb').lt hg) (hnotPb x b g hx hb' hg)⟩
 ·rcases hcase x b h1 with⟨i,c,hi,rfl,hc,rfl⟩|⟨hx,hb1⟩<;>rcases hcase x' b' h2 with⟨j,d,hj,rfl,hd,rfl⟩|⟨hx',hb2⟩
  ·rw[←hφ' i hi]at h3;rw[←hφ' j hj]at h4
   obtain rfl:=hp.inj i j g (by omega) (by omega) h3 h4
   rfl
  ·rw[←hφ' i hi]at h3;rw[hother x' hx']at h4
   exfalso
   by_cases hik:i<η.length
   ·rw[hp.same i (by omega),b2_ hik]at h3
    obtain⟨c',hc'⟩:=hold i hik
    have:=hr.inj _ x' c' b' g hc' hb2 h3 h4
    exact hx' (by rw[←this,←hget i hik];exact hin i hi)
   have:=hp.new i g (by omega) h3
   have:=(hr.mem x' b' hb2).lt h4
   omega
  ·rw[hother x hx]at h3;rw[←hφ' j hj]at h4
   exfalso
   by_cases hik:j<η.length
   ·rw[hp.same j (by omega),b2_ hik]at h4
    obtain⟨c',hc'⟩:=hold j hik
    have:=hr.inj _ x c' b g hc' hb1 h4 h3
    exact hx (by rw[←this,←hget j hik];exact hin j hj)
   have:=hp.new j g (by omega) h4
   have:=(hr.mem x b hb1).lt h3
   omega
  rw[hother x hx]at h3;rw[hother x' hx']at h4
  exact hr.inj x x' b b' g hb1 hb2 h3 h4
 ·rcases hcase x b hb with⟨i,c,hi,rfl,hc,rfl⟩|⟨hx,hb1⟩
  ·rw[←hφ' i hi]at hg
   by_cases hik:i<η.length
   ·rw[hp.same i (by omega),b2_ hik]at hg
    obtain⟨c',hc'⟩:=hold i hik
    exact hr.own _ c' g hc' hg
   exact .inr (Nat.le_trans hr.frame.size (hp.new i g (by omega) hg))
  rw[hother x hx]at hg
  exact hr.own x b g hb1 hg
 exact((VRs.rn (η:=η') hφ' hcl).1 hp.res).keep hkeep |>.wrap
end
end
section
open Go.RowKit
mutual
def leV:V→V→Prop
 |_,.no=>True
 |.i k a,.i k' b=>k=k'∧a=b
 |.b p,.b q=>p=q
 |.s p,.s q=>p=q
 |.sl t r,.sl t' r'=>(t'=true→t=true)∧ler r r'
 |.ow l z o n,.ow l' z' o' n'=>l=l'∧z=z'∧o=o'∧n=n'
 |.pt l z r c,.pt l' z' r' c'=>l=l'∧z=z'∧r=r'∧c=c'
 |.rp a,.rp b=>les a b
 |.np,.np=>True
 |.q P,.q Q=>∀x,P x→Q x
 |.fn f a c,.fn f' a' c'=>f=f'∧les a a'∧les c c'
 |.ag a,.ag b=>les a b
 |.tu a,.tu b=>les a b
 |.gd c v,.gd c' v'=>c=c'∧leV v v'
 |.gd c v,.i k n=>c=true∧leV v (.i k n)
 |.gd c v,.b p=>c=true∧leV v (.b p)
 |.gd c v,.s p=>c=true∧leV v (.s p)
 |.gd c v,.sl t r=>c=true∧leV v (.sl t r)
 |.gd c v,.ow l z o n=>c=true∧leV v (.ow l z o n)
 |.gd c v,.pt l z o n=>c=true∧leV v (.pt l z o n)
 |.gd c v,.rp a=>c=true∧leV v (.rp a)
 |.gd c v,.np=>c=true∧leV v .np
 |.gd c v,.q P=>c=true∧leV v (.q P)
 |.gd c v,.fn f a d=>c=true∧leV v (.fn f a d)
 |.gd c v,.ag a=>c=true∧leV v (.ag a)
 |.gd c v,.tu a=>c=true∧leV v (.tu a)
 |_,_=>False
def les:List V→List V→Prop
 |[],[]=>True
 |v::vs,u::us=>leV v u∧les vs us
 |_,_=>False
def ler:List (List V)→List (List V)→Prop
 |[],[]=>True
 |v::vs,u::us=>les v u∧ler vs us
 |_,_=>False
end
mutual
theorem fv_:∀v:V,leV v v
 |.no|.np=>by simp only[leV]
 |.q P=>by simp only[leV];exact fun _ h=>h
 |.i _ _|.b _|.s _|.ow _ _ _ _|.pt _ _ _ _=>by simp only[leV,and_self]
 |.sl t r=>by simp only[leV,ad_ r,imp_self,and_self]
 |.rp a|.ag a|.tu a=>by simp only[leV];exact fu_ a
 |.fn f a c=>by simp only[leV,fu_ a,fu_ c,and_self]
 |.gd c v=>by simp only[leV,fv_ v,and_self]
theorem fu_:∀vs:List V,les vs vs
 |[]=>by simp only[les]
 |v::vs=>by simp only[les,fv_ v,fu_ vs,and_self]
theorem ad_:∀vs:List (List V),ler vs vs
 |[]=>by simp only[ler]
 |v::vs=>by simp only[ler,fu_ v,ad_ vs,and_self]
end
theorem alp_:∀ {vs us:List V},les vs us→vs.length=us.length
 |[],[],_=>rfl
 |v::vs,u::us,h=>by simp only[les]at h;simp[alp_ h.2]
 |[],_::_,h|_::_,[],h=>by simp[les]at h
theorem ak3_:∀ {vs us:List (List V)},ler vs us→vs.length=us.length
 |[],[],_=>rfl
 |v::vs,u::us,h=>by simp only[ler]at h;simp[ak3_ h.2]
 |[],_::_,h|_::_,[],h=>by simp[ler]at h
section
variable {φ:Phi} {S:Nat→Prop} {w:World}
mutual
theorem VR.le:∀ {v v':V} {x:Value},leV v v'→VR φ S w v x→VR φ S w v' x
 |.gd c v,v',x,h,k=>by
  have hk:=k
  simp only[VR]at k
  cases v'<;>simp only[leV]at h
  case no=>simp only[VR]
  case gd c' v'=>
   obtain⟨rfl,h⟩:=h
   simp only[VR]
   exact⟨fun hc=>VR.le h (k.1 hc),k.2⟩
  all_goals exact VR.le h.2 (k.1 h.1)
 |.i _ _,v',x,h,k=>by
  cases v'<;>simp only[leV]at h
  case no=>simp only[VR]
  case i=>obtain⟨rfl,rfl⟩:=h;exact k
 |.b _,v',x,h,k=>by
  cases v'<;>simp only[leV]at h
  case no=>simp only[VR]
  case b=>subst h;exact k
 |.s _,v',x,h,k=>by
  cases v'<;>simp only[leV]at h
  case no=>simp only[VR]
  case s=>subst h;exact k
 |.q P,v',x,h,k=>by
  cases v'<;>simp only[leV]at h
  case no=>simp only[VR]
  case q=>simp only[VR]at k ⊢;exact⟨h x k.1,k.2⟩
 |.np,v',x,h,k=>by
  cases v'<;>simp only[leV]at h
  case no=>simp only[VR]
  case np=>exact k
 |.no,v',x,h,k=>by
  cases v'<;>simp only[leV]at h
  case no=>exact k
 |.ow _ _ _ _,v',x,h,k=>by
  cases v'<;>simp only[leV]at h
  case no=>simp only[VR]
  case ow=>obtain⟨rfl,rfl,rfl,rfl⟩:=h;exact k
 |.pt _ _ _ _,v',x,h,k=>by
  cases v'<;>simp only[leV]at h
  case no=>simp only[VR]
  case pt=>obtain⟨rfl,rfl,rfl,rfl⟩:=h;exact k
 |.sl t r,v',x,h,k=>by
  cases v'<;>simp only[leV]at h
  case no=>simp only[VR]
  case sl t' r'=>
   have hl:=ak3_ h.2
   simp only[VR]at k ⊢
   obtain⟨A,c,z,xs,h1,h2,h3,h4,h5,h6⟩:=k
   exact⟨A,c,z,xs,by rw[←hl];exact h1,by rw[←hl];exact h2,h3,fun e=>by rw[←hl];exact h4 (h.1 e),h5,VRr.le h.2 h6⟩
 |.rp a,v',x,h,k=>by
  cases v'<;>simp only[leV]at h
  case no=>simp only[VR]
  case rp b=>
   simp only[VR]at k ⊢
   obtain⟨g,o,xs,h1,h2,h3,h4,h5⟩:=k
   exact⟨g,o,xs,h1,h2,h3,h4,VRs.le h h5⟩
 |.fn f a c,v',x,h,k=>by
  cases v'<;>simp only[leV]at h
  case no=>simp only[VR]
  case fn g b d=>
   obtain⟨rfl,h',h''⟩:=h
   simp only[VR]at k ⊢
   obtain⟨a',c',h1,h2,h3⟩:=k
   exact⟨a',c',h1,VRs.le h' h2,VRs.le h'' h3⟩
 |.ag a,v',x,h,k=>by
  cases v'<;>simp only[leV]at h
  case no=>simp only[VR]
  case ag b=>
   simp only[VR]at k ⊢
   obtain⟨xs,h1,h2⟩:=k
   exact⟨xs,h1,VRs.le h h2⟩
 |.tu a,v',x,h,k=>by
  cases v'<;>simp only[leV]at h
  case no=>simp only[VR]
  case tu b=>
   simp only[VR]at k ⊢
   obtain⟨xs,h1,h2⟩:=k
   exact⟨xs,h1,VRs.le h h2⟩
theorem VRs.le:∀ {vs us:List V} {xs:List Value},les vs us→VRs φ S w vs xs→VRs φ S w us xs
 |[],us,_,h,k=>by cases us<;>simp only[les]at h;exact k
 |v::vs,us,xs,h,k=>by
  cases us<;>simp only[les]at h
  rename_i u us
  simp only[VRs]at k ⊢
  obtain⟨x,r,h1,h2,h3⟩:=k
  exact⟨x,r,h1,VR.le h.1 h2,VRs.le h.2 h3⟩
theorem VRr.le {z:Nat}:∀ {vs us:List (List V)} {xs:List Value},ler vs us→VRr φ S w z vs xs→VRr φ S w z us xs
 |[],us,_,h,k=>by cases us<;>simp only[ler]at h;exact k
 |v::vs,us,xs,h,k=>by
  cases us<;>simp only[ler]at h
  rename_i u us
  simp only[VRr]at k ⊢
  obtain⟨ys,zs,h1,h2,h3,h4,h5⟩:=k
  exact⟨ys,zs,h1,(alp_ h.1).symm.trans h2,VRs.le h.1 h3,h4,VRr.le h.2 h5⟩
end
end
section
variable {E:Env} {C:Cx} {φ:Phi} {s:St} {a:Act} {w w':World} {o:Oper} {e:Eff}
theorem RelAt.ladW (hr:RelAt E C φ s a w) {B:Nat} (b1:E.H B C.w0) (b2:B≤C.w0.heap.size) (b3:∀g,C.Pb g→B≤g):E.H B w:=
 E.hst B C.w0 w b1 fun g hg=>hr.frame.block g (by omega) fun hp=>by have:=b3 g hp;omega
theorem VRs.map {S:Nat→Prop} (f:Operand→V) (ρ:Operand→Value):∀l:List Operand,(∀x∈l,VR φ S w (f x) (ρ x))→VRs φ S w (l.map f) (l.map ρ)
 |[],_=>.nil
 |x::r,h=>.cons (h x (by simp)) (VRs.map f ρ r fun y hy=>h y (by simp[hy]))
theorem vy_ {f:FuncId} {fo:Operand} {a0s:Array Operand} {ts:Array TypeId} (ho:o.op = .call { callee:=.value fo,args:=a0s,argTypes:=ts }) {ρ:Operand→Value} {first captured:Array Value} (hf:ρ fo = .func (.func f) first captured)
  (hc:∀args w,(callFunc f args).run E.P w = .ok (.enter f args) w):(execOp ρ o).run E.P w = .ok (.enter f (first++a0s.map ρ++captured)) w:=by
 simp only[execOp,ho,resolve,hf,Deferred.ofValue,Sem.run_bind,Sem.run_pure,Result.andThen_ok,invoke,hc]
theorem alv_ {fo:Operand} {a0s:Array Operand} {ts:Array TypeId} {f:FuncId} {first caps vs rs:List V} {L0 Lr:List Blk} (η η':List Nat) (hp:PC E o s) (ho:o.op = .call { callee:=.value fo,args:=a0s,argTypes:=ts }) (hf:s.pv E fo = .fn (.func f) first caps)
  (hA:ACall E f vs L0 rs Lr) (hargs:les (first++a0s.toList.map (s.pv E)++caps) (rns η vs)) (hη:η.length=L0.length) (hpre:η'.take η.length=η) (hlr:η'.length=Lr.length) (hle:η.length≤η'.length) (hnd:η'.Nodup)
  (hm0:∀i b,L0[i]? = some b→s.m (η.getD i 0)=some (rnB η b)) (hv:cls η.length vs=true) (hv0:∀b∈L0,clr η.length b.rows=true) (hcl:cls η'.length rs=true) (hclr:∀b∈Lr,clr η'.length b.rows=true):Op1 E o s (ez_ η η' rs Lr):=by
 have of:fo∈o.op.operands:=by simp[ho,Op.operands,Call.operands]
 have oa:∀x∈a0s.toList,x∈o.op.operands:=fun x hx=>by simp[ho,Op.operands,Call.operands];exact .inr (Array.mem_toList_iff.1 hx)
 intro s' e1 e2 e3 C φ a w hr K Q hK
 have rd:∀x∈o.op.operands,VR φ (C.S φ s'.m) w (s.pv E x) (a.eval x):=fun x hx=>by
  have e:=e1 x hx
  have:=hr.pv (x:=x) (by rw[e];exact hp x hx)
  unfold St.pv at this ⊢
  rwa [e]at this
 have hfv:=rd fo of
 rw[hf]at hfv
 simp only[VR]at hfv
 obtain⟨fa,ca,hfe,hfa,hca⟩:=hfv
 have hrun:=vy_ (E:=E) (w:=w) ho hfe hA.1
 have hvs:=(hfa.append (VRs.map (s.pv E) a.eval a0s.toList fun x hx=>rd x (oa x hx))).append hca
 have hvs:=hvs.le hargs
 have hφ:∀i,i<η.length→cz_ η φ i=φ (η.getD i 0):=fun i hi=>b2_ hi
 have hm0':∀i b,L0[i]? = some b→s'.m (η.getD i 0)=some (rnB η b):=fun i b hb=>by
  have hi:i<η.length:=by rw[hη];exact(List.getElem?_eq_some_iff.1 hb).1
  rw[e2 _ (by simp only[ez_];rw[List.getD_eq_getElem?_getD,List.getElem?_eq_getElem hi];exact List.getElem_mem hi)]
  exact hm0 i b hb
 have hndη:η.Nodup:=by rw[←hpre];exact hnd.sublist (List.take_sublist _ _)
 have hpr:Pre E (cz_ η φ) (C.S φ s'.m) w vs L0 (fa++a0s.map a.eval++ca):=by
  refine⟨(VRs.rn hφ hv).2 (by simpa using hvs),fun i b hb=>?_,fun i j g hi hj h1 h2=>?_,fun g hg i b hb h1=>?_,fun g cs hg=>hr.glob g cs hg,fun l hl=>?_,?_⟩
  ·have hi:i<η.length:=by rw[hη];exact(List.getElem?_eq_some_iff.1 hb).1
   exact(MR.rn hφ hi (hv0 b (List.mem_of_getElem? hb))).2 (hr.mem _ _ (hm0' i b hb))
  ·rw[b2_ (by omega)]at h1 h2
   have:=hr.inj _ _ _ _ g (hm0' i L0[i] (List.getElem?_eq_getElem hi)) (hm0' j L0[j] (List.getElem?_eq_getElem hj)) h1 h2
   rw[List.getD_eq_getElem?_getD,List.getD_eq_getElem?_getD,List.getElem?_eq_getElem (by omega),List.getElem?_eq_getElem (by omega)]at this
   exact(List.getElem_inj hndη).1 this
  ·have hi:i<η.length:=by rw[hη];exact(List.getElem?_eq_some_iff.1 hb).1
   rw[b2_ hi]at h1
   exact hg.2 _ _ (hm0' i b hb) h1
  ·rcases Nat.lt_or_ge l η.length with h|h
   ·omega
   simp[cz_,List.getElem?_eq_none h]at hl
  obtain⟨B,b1,b2,b3⟩:=hr.lad
  refine⟨B,hr.ladW b1 b2 b3,Nat.le_trans b2 hr.frame.size,fun i g hg=>?_⟩
  have hi:i<η.length:=by
   rcases Nat.lt_or_ge i η.length with h|h
   ·exact h
   simp[cz_,List.getElem?_eq_none h]at hg
  rw[b2_ hi]at hg
  rcases hr.own _ _ g (hm0' i L0[i] (List.getElem?_eq_getElem (by omega))) hg with h1|h1
  ·exact b3 g h1
  omega
 unfold Oper.wp
 rw[hrun]
 refine(hA.2 _ _ _ _ hpr).mono fun en w' hen=>?_
 obtain⟨xs,φr,rfl,hpost⟩:=hen
 have hnew:∀l∈η'.drop η.length,s'.u l=false:=fun l hl=>e3 l hl
 obtain⟨φ',r1,r2⟩:=hr.called hη hpre hlr hle hnd hm0' hnew hcl hclr hpost
 exact hK φ' _ _ (r1.put o.dst r2)
/-! data that lies in no memory -/
mutual
def V.flat:V→Bool
 |.i _ _|.b _|.s _|.np|.no|.q _=>true
 |.ag cs|.tu cs=>sk_ cs
 |.gd _ v=>V.flat v
 |_=>false
def sk_:List V→Bool
 |[]=>true
 |v::r=>V.flat v&&sk_ r
end
mutual
theorem VR.ofFlat {φ φ':Phi} {S S':Nat→Prop} {w w':World}:∀ {v:V} {x:Value},v.flat=true→VR φ S w v x→VR φ' S' w' v x
 |.i _ _,_,_,h|.b _,_,_,h|.s _,_,_,h|.np,_,_,h|.q _,_,_,h=>by simp only[VR]at h ⊢;exact h
 |.no,_,_,_=>by simp only[VR]
 |.ag cs,x,hf,h=>by
  simp only[V.flat]at hf
  simp only[VR]at h ⊢
  obtain⟨xs,h1,h2⟩:=h
  exact⟨xs,h1,VRs.ofFlat hf h2⟩
 |.tu cs,x,hf,h=>by
  simp only[V.flat]at hf
  simp only[VR]at h ⊢
  obtain⟨xs,h1,h2⟩:=h
  exact⟨xs,h1,VRs.ofFlat hf h2⟩
 |.gd c v,x,hf,h=>by
  simp only[V.flat]at hf
  simp only[VR]at h ⊢
  exact⟨fun hc=>VR.ofFlat hf (h.1 hc),h.2⟩
 |.sl _ _,_,hf,_|.ow _ _ _ _,_,hf,_|.pt _ _ _ _,_,hf,_|.rp _,_,hf,_|.fn _ _ _,_,hf,_=>by simp[V.flat]at hf
theorem VRs.ofFlat {φ φ':Phi} {S S':Nat→Prop} {w w':World}:∀ {vs:List V} {xs:List Value},sk_ vs=true→VRs φ S w vs xs→VRs φ' S' w' vs xs
 |[],_,_,h=>by simp only[VRs]at h ⊢;exact h
 |v::vs,xs,hf,h=>by
  simp only[sk_,Bool.and_eq_true]at hf
  simp only[VRs]at h ⊢
  obtain⟨x,r,h1,h2,h3⟩:=h
  exact⟨x,r,h1,VR.ofFlat hf.1 h2,VRs.ofFlat hf.2 h3⟩
end
def lend (m:Mem):V→V
 |.ow l z p n=>match m l with|some b=>if b.z=z∧p+n≤b.rows.length then .sl false ((b.rows.drop p).take n)else .no|none=>.no
 |v=>v
theorem VR.lend {S:Nat→Prop} {m:Mem} {v:V} {x:Value} (hm:∀l b,l∈cc_ v→m l=some b→MR φ S w l b) (h:VR φ S w v x):VR φ (fun _=>True) w (lend m v) x:=by
 have hk:KeepsW φ φ S (fun _=>True) w w:=⟨fun _ _ h=>h,fun _ _ _=>⟨trivial,rfl⟩,Nat.le_refl _,fun _ _ h=>h⟩
 cases v<;>try exact h.keep hk
 rename_i l z p n
 simp only[Go.Proofs.YthjccajoadjicaaGreatDoor.lend]
 cases hb:m l with
 |none=>simp only[VR]
 |some b=>
  simp only[]
  split
  ·rename_i hh
   obtain⟨A,c,z',xs,e1,e2,e3,e4,e5,e6,_⟩:=l7_ (m:=m) (rows:=(b.rows.drop p).take n) h (by simp only[ro_,hb,hh,and_self,if_true]) (fun l2 hl2 b2 hb2=>hm l2 b2 hl2 hb2)
   simp only[VR]
   refine⟨A,c,z',xs,e1,e2,e3,fun h=>by simp at h,fun hne=>?_,e4.keep hk⟩
   obtain⟨g,q,f1,f2⟩:=e6 hne
   have hlt:g<w.heap.size:=by
    cases xs with
    |nil=>exact absurd rfl hne
    |cons u us=>exact World.block_lt_of_cell? w _ (f2 0 u (by simp))
   exact⟨g,q,f1,trivial,hlt,f2⟩
  simp only[VR]
theorem asz_ {fo:Operand} {a0s:Array Operand} {ts:Array TypeId} {f:FuncId} {first caps vs rs:List V} (hp:PC E o s) (ho:o.op = .call { callee:=.value fo,args:=a0s,argTypes:=ts }) (hf:s.pv E fo = .fn (.func f) first caps)
  (hA:ACall E f vs [] rs []) (hargs:les ((first++a0s.toList.map (s.pv E)++caps).map (lend s.m)) vs) (hcl:sk_ rs=true) (hv:cls 0 vs=true):Op1 E o s { v:=if_ rs,rd:=(first++a0s.toList.map (s.pv E)++caps).flatMap cc_ }:=by
 have of:fo∈o.op.operands:=by simp[ho,Op.operands,Call.operands]
 have oa:∀x∈a0s.toList,x∈o.op.operands:=fun x hx=>by simp[ho,Op.operands,Call.operands];exact .inr (Array.mem_toList_iff.1 hx)
 intro s' e1 e2 e3 C φ a w hr K Q hK
 have rd:∀x∈o.op.operands,VR φ (C.S φ s'.m) w (s.pv E x) (a.eval x):=fun x hx=>by
  have e:=e1 x hx
  have:=hr.pv (x:=x) (by rw[e];exact hp x hx)
  unfold St.pv at this ⊢
  rwa [e]at this
 have hfv:=rd fo of
 rw[hf]at hfv
 simp only[VR]at hfv
 obtain⟨fa,ca,hfe,hfa,hca⟩:=hfv
 have hrun:=vy_ (E:=E) (w:=w) ho hfe hA.1
 have hvs:=(hfa.append (VRs.map (s.pv E) a.eval a0s.toList fun x hx=>rd x (oa x hx))).append hca
 have lendAll:∀(l:List V) (xs:List Value),(∀v∈l,∀n∈cc_ v,s'.m n=s.m n)→VRs φ (C.S φ s'.m) w l xs→VRs φ (fun _=>True) w (l.map (lend s.m)) xs:=fun l=>by
  induction l with
  |nil=>intro xs _ h;simpa only[List.map_nil,VRs]using h
  |cons v l ih=>
   intro xs hn h
   simp only[VRs]at h
   obtain⟨x,r,rfl,h1,h2⟩:=h
   exact .cons (h1.lend (fun l2 b hl2 hb=>hr.mem l2 b (by rw[hn v (by simp) l2 hl2];exact hb))) (ih r (fun u hu=>hn u (by simp[hu])) h2)
 have hvs':=lendAll _ _ (fun v hv n hn=>e2 n (List.mem_flatMap.2 ⟨v,hv,hn⟩)) hvs
 have hvs':=hvs'.le hargs
 have hpr:Pre E (fun _=>none) (fun _=>True) w vs [] (fa++a0s.map a.eval++ca):=by
  refine⟨?_,fun i b hb=>by simp at hb,fun i j g hi=>by simp at hi,fun g _ i b hb=>by simp[lq_]at hb,fun g cs hg=>?_,fun l hl=>absurd rfl hl,?_⟩
  ·have h1:=(VRs.rn (η:=[]) (ψ:=φ) (φ:=φ) (S:=fun _=>True) (w:=w) (fun i hi=>by simp at hi) (by simpa using hv)).1 hvs'
   exact(VRs.rn (η:=[]) (ψ:=fun _=>none) (φ:=φ) (S:=fun _=>True) (w:=w) (fun i hi=>by simp at hi) (by simpa using hv)).2 (by simpa using h1)
  ·exact(hr.glob g cs hg).keep (φ':=fun _=>none) ⟨fun _ _ h=>h,fun _ _ _=>⟨trivial,rfl⟩,Nat.le_refl _,fun _ _ h=>h⟩
  obtain⟨B,b1,b2,b3⟩:=hr.lad
  exact⟨B,hr.ladW b1 b2 b3,Nat.le_trans b2 hr.frame.size,fun i g hg=>by cases hg⟩
 unfold Oper.wp
 rw[hrun]
 refine(hA.2 _ _ _ _ hpr).mono fun en w' hen=>?_
 obtain⟨xs,φr,rfl,hpost⟩:=hen
 have hfr:FrameW (fun _=>False) w w':=hpost.frame.mono fun g _ ⟨i,hi,_⟩=>by simp at hi
 have hst:=hr.step (φ':=φ) (m':=s'.m) (u':=s'.u) (w':=w') (fun _ _ h=>h) hr.used (fun g hg hlt=>⟨hg,hfr.block g hlt id⟩) hfr (fun _ h=>h.elim)
  (fun l b hb=>.inl ⟨hb,fun g hg=>hfr.block g ((hr.mem l b hb).lt hg) id⟩) hr.inj hr.own
 refine hK φ _ _ (RelAt.put (s:={ s' with m:=_,u:=_ }) (by rw[Eff.mem_nil,Eff.use_nil];exact hst) o.dst ?_)
 exact(VRs.ofFlat (w':=w') hcl hpost.res).wrap
/-! guards -/
def jc_ (gv:V) (f:Bool):Bool:=dg_ gv&&(match peel gv with|.b c=>c==f|_=>false)
theorem xw_ {S:Nat→Prop}:∀ {gv:V} {x:Value} {f c:Bool},VR φ S w gv x→peel gv = .b c→((x = .bool f)↔jc_ gv f=true)
 |.gd g v,x,f,c,h,hp=>by
  simp only[VR]at h
  simp only[peel]at hp
  cases g with
  |true=>
   have:=xw_ (f:=f) (h.1 rfl) hp
   rw[this]
   simp[jc_,dg_,peel]
  |false=>
   have:=h.2 rfl
   subst this
   simp[jc_,dg_,undef]
 |.b c',x,f,c,h,hp=>by
  simp only[VR]at h
  subst h
  simp[jc_,dg_,peel]
 |.i _ _,_,_,_,_,hp|.s _,_,_,_,_,hp|.sl _ _,_,_,_,_,hp|.ow _ _ _ _,_,_,_,_,hp|.pt _ _ _ _,_,_,_,_,hp|.rp _,_,_,_,_,hp|.np,_,_,_,_,hp|.q _,_,_,_,_,hp|.fn _ _ _,_,_,_,_,hp|.ag _,_,_,_,_,hp|.tu _,_,_,_,_,hp|.no,_,_,_,_,hp=>by
  simp[peel]at hp
theorem VRs.wkSet {S:Nat→Prop} {v v':V} (hv:∀x,VR φ S w v x→VR φ S w v' x):∀ {σ:List V} {t:Nat} {xs:List Value},VRs φ S w (σ.set t v) xs→VRs φ S w (σ.set t v') xs
 |[],_,_,h=>by simpa using h
 |u::σ,0,xs,h=>by
  simp only[List.set_cons_zero,VRs]at h ⊢
  obtain⟨x,r,h1,h2,h3⟩:=h
  exact⟨x,r,h1,hv x h2,h3⟩
 |u::σ,t+1,xs,h=>by
  simp only[List.set_cons_succ,VRs]at h ⊢
  obtain⟨x,r,h1,h2,h3⟩:=h
  exact⟨x,r,h1,h2,h3.wkSet hv⟩
theorem RelAt.wkPut {d:Option Tmp} {v v':V} {rd:List Nat} (h:RelAt E C φ (s.eff d { v:=v,rd:=rd }) a w) (_:True) (hv:∀S w x,VR φ S w v x→VR φ S w v' x):RelAt E C φ (s.eff d { v:=v',rd:=rd }) a w:=by
 have e0:∀u,s.eff d { v:=u,rd:=rd }=s.put d u:=fun u=>by unfold St.eff;rw[Eff.mem_nil,Eff.use_nil]
 rw[e0]at h ⊢
 cases d with
 |none=>exact h
 |some t=>exact⟨h.defers,VRs.wkSet (hv _ _) h.slots,h.mem,h.inj,h.own,h.used,h.phi0,h.frame,h.glob,h.lad⟩
def RS1 (E:Env) (ops:Array Oper) (o:Oper) (s:St) (e:Eff):Prop:=
  match o.guard with
  |none=>Op1 E o s e
  |some (j,f)=>∃d c,(ops[j]?).bind (·.dst)=some d∧peel (s.σ.getD d .no) = .b c∧
      ((∃v,e={ v:=.gd (jc_ (s.σ.getD d .no) f) v,rd:=e.rd }∧(jc_ (s.σ.getD d .no) f=true→Op1 E o s { v:=v,rd:=e.rd }))∨
       (jc_ (s.σ.getD d .no) f=true∧Op1 E o s e)∨(jc_ (s.σ.getD d .no) f=false∧e={ v:=.no }))
theorem RelAt.slot (hr:RelAt E C φ s a w) (t:Tmp):VR φ (C.S φ s.m) w (s.σ.getD t .no) (a.tmps.getD t undef):=hr.ev (.tmp t)
theorem RS1.run {ops:Array Oper} (h:RS1 E ops o s e) (hn:∀l∈e.nw,s.u l=false) (hr:RelAt E C φ s a w) {K:Act→World→Prop} {Q:Exit→Act→World→Prop} (hK:∀φ' a' w',RelAt E C φ' (s.eff o.dst e) a' w'→K a' w') :
  if Region.wanted o (yielded ops a.tmps)then o.wp E.P a w K Q else K (a.put o.dst undef) w:=by
 unfold RS1 at h
 cases hg:o.guard with
 |none=>
  simp only[hg]at h
  simp only[Region.wanted,hg,if_true]
  exact h s (fun _ _=>rfl) (fun _ _=>rfl) hn C φ a w hr K Q hK
 |some jf=>
  obtain⟨j,f⟩:=jf
  simp only[hg]at h
  obtain⟨d,c,hd,hc,h⟩:=h
  have hiff:=xw_ (f:=f) (hr.slot d) hc
  have hw:Region.wanted o (yielded ops a.tmps)=jc_ (s.σ.getD d .no) f:=by
   have hlt:d<a.tmps.size:=by
    rw[hr.tmps]
    rcases Nat.lt_or_ge d s.σ.length with h1|h1
    ·exact h1
    rw[List.getD_eq_getElem?_getD,List.getElem?_eq_none h1]at hc;simp[peel]at hc
   have hy:yielded ops a.tmps j=match a.tmps.getD d undef with|.bool b=>some b|_=>none:=by
    simp only[yielded,hd,Option.bind_some,Array.getD_eq_getD_getElem?,Array.getElem?_eq_getElem hlt,Option.getD_some]
    cases a.tmps[d]<;>rfl
   rw[Bool.eq_iff_iff,←hiff]
   simp only[Region.wanted,hg,hy,beq_iff_eq]
   cases a.tmps.getD d undef<;>simp
  rw[hw]
  rcases h with⟨v,he,hv⟩|⟨ht,hop⟩|⟨hf,he⟩
  ·cases hgc:jc_ (s.σ.getD d .no) f with
   |true=>
    rw[if_pos rfl]
    rw[he]at hK
    refine hv hgc s (fun _ _=>rfl) (fun _ _=>rfl) (fun l hl=>by simp at hl) C φ a w hr K Q (fun φ' a' w' hr'=>hK φ' a' w' ?_)
    rw[hgc]
    exact hr'.wkPut trivial fun S w x h=>by simp only[VR];exact⟨fun _=>h,fun h=>by cases h⟩
   |false=>
    rw[if_neg (by simp)]
    rw[he]at hK
    refine hK φ _ _ (RelAt.put (s:={ s with m:=_,u:=_ }) (by rw[Eff.mem_nil,Eff.use_nil];exact hr) o.dst ?_)
    rw[hgc]
    simp only[VR]
    exact⟨fun h=>(by cases h),fun _=>by first|rfl|trivial⟩
  ·rw[if_pos ht]
   exact hop s (fun _ _=>rfl) (fun _ _=>rfl) hn C φ a w hr K Q hK
  rw[if_neg (by rw[hf];simp)]
  rw[he]at hK
  exact hK φ _ _ (RelAt.put (s:={ s with m:=_,u:=_ }) (by rw[Eff.mem_nil,Eff.use_nil];exact hr) o.dst (by simp only[VR]))
end
end
section
open Go.RowKit
inductive Lex (E:Env) (ops:Array Oper):List Oper→St→List Eff→St→Prop
 |nil (s:St):Lex E ops [] s [] s
 |cons {o:Oper} {rest:List Oper} {s s':St} {e:Eff} {es:List Eff} (h:RS1 E ops o s e) (hn:∀l∈e.nw,s.u l=false) (r:Lex E ops rest (s.eff o.dst e) es s'):Lex E ops (o::rest) s (e::es) s'
section
variable {E:Env} {C:Cx} {φ:Phi} {s s':St} {a:Act} {w w':World} {o:Oper} {e:Eff} {ops:Array Oper} {Q:Exit→Act→World→Prop}
theorem Lex.run:∀ {l:List Oper} {s:St} {es:List Eff} {a:Act} {w:World} {φ:Phi},Lex E ops l s es s'→RelAt E C φ s a w→(∀φ' a' w',RelAt E C φ' s' a' w'→Q .normal a' w')→wpList E.P ops Q l a w
 |_,_,_,_,_,_,.nil _,hr,hQ=>wpList_nil (hQ _ _ _ hr)
 |_,_,_,_,_,_,.cons h hn r,hr,hQ=>wpList_step fun K hK=>h.run hn hr fun φ' a' w' hr'=>hK a' w' (r.run hr' hQ)
/-! ### whatever order -/
def stD (D:Nat→Bool):Nat→List (Oper × Eff)→St→St
 |_,[],s=>s
 |k,(o,e)::r,s=>stD D (k+1) r (if D k then s.eff o.dst e else s)
theorem k3_ {e:Eff} {m:Mem} {x:Nat} (h:x ∉ e.wr.map (·.1)):e.mem m x=m x:=
 eg_ _ _ fun p hp hx=>h (by rw[←hx];exact List.mem_map.2 ⟨p,hp,rfl⟩)
theorem z0_ {x:Nat}:∀(l:List (Nat × Option Blk)) (m m':Mem),x∈l.map (·.1)→(l.foldl (fun m p=>upd m p.1 p.2) m) x=(l.foldl (fun m p=>upd m p.1 p.2) m') x
 |[],_,_,h=>by simp at h
 |p::l,m,m',h=>by
  by_cases hx:x∈l.map (·.1)
  ·simp only[List.foldl_cons];exact z0_ l _ _ hx
  have hp:x=p.1:=by simpa[hx]using h
  have hn:∀q∈l,q.1≠x:=fun q hq e=>hx (by rw[←e];exact List.mem_map.2 ⟨q,hq,rfl⟩)
  simp only[List.foldl_cons]
  rw[eg_ l _ hn,eg_ l _ hn,hp,dd_,dd_]
theorem aju_ {e:Eff} {m m':Mem} {x:Nat} (h:x∈e.wr.map (·.1)):e.mem m x=e.mem m' x:=z0_ _ _ _ h
theorem sd_ (s:St) (d:Option Tmp) (e:Eff):(s.eff d e).σ=match d with|some t=>s.σ.set t e.v|none=>s.σ:=by cases d<;>rfl
theorem avu_ (s:St) (d:Option Tmp) (e:Eff):(s.eff d e).m=e.mem s.m:=by cases d<;>rfl
theorem agk_ (s:St) (d:Option Tmp) (e:Eff):(s.eff d e).u=e.use s.u:=by cases d<;>rfl
theorem St.ext' {s t:St} (h1:s.σ=t.σ) (h2:s.m=t.m) (h3:s.u=t.u):s=t:=by cases s;cases t;simp_all
structure Apart2 (d1:Option Tmp) (e1:Eff) (d2:Option Tmp) (e2:Eff):Prop where
 dst:∀t,d1=some t→d2≠some t
 mem:∀x,x∈e1.wr.map (·.1)→x ∉ e2.wr.map (·.1)
theorem arb_ {d1 d2:Option Tmp} {e1 e2:Eff} (h:Apart2 d1 e1 d2 e2) (s:St):(s.eff d1 e1).eff d2 e2=(s.eff d2 e2).eff d1 e1:=by
 apply St.ext'
 ·rw[sd_,sd_,sd_,sd_]
  cases d1 with
  |none=>cases d2<;>rfl
  |some t=>
   cases d2 with
   |none=>rfl
   |some u=>exact List.set_comm _ _ (fun e=>h.dst t rfl (by rw[e]))
 ·simp only[avu_]
  funext x
  by_cases h1:x∈e1.wr.map (·.1)
  ·rw[k3_ (h.mem x h1)];exact aju_ h1
  by_cases h2:x∈e2.wr.map (·.1)
  ·rw[k3_ (e:=e1) h1];exact aju_ h2
  rw[k3_ h2,k3_ h1,k3_ h1,k3_ h2]
 simp only[agk_,Eff.use]
 funext x
 show((s.u x||e1.nw.contains x)||e2.nw.contains x)=((s.u x||e2.nw.contains x)||e1.nw.contains x)
 generalize s.u x=p
 generalize e1.nw.contains x=q
 generalize e2.nw.contains x=r
 cases p<;>cases q<;>cases r<;>rfl
theorem alm_ {D:Nat→Bool} {d:Option Tmp} {e:Eff}:∀(l:List (Oper × Eff)) (k:Nat) (s:St),(∀j p,l[j]? = some p→D (k+j)=true→Apart2 d e p.1.dst p.2)→stD D k l (s.eff d e)=(stD D k l s).eff d e
 |[],_,_,_=>rfl
 |(o,e')::l,k,s,h=>by
  simp only[stD]
  have ih:=fun s'=>alm_ l (k+1) s' (fun j p hj hD=>h (j+1) p (by simpa using hj) (by rwa [Nat.add_assoc,Nat.add_comm 1 j]at hD))
  cases hD:D k with
  |true=>
   simp only[if_true]
   rw[arb_ (h 0 (o,e') rfl (by simpa using hD))]
   exact ih _
  |false=>simp only[Bool.false_eq_true,if_false];exact ih s
theorem all_ {D:Nat→Bool} {i:Nat}:∀(l:List (Oper × Eff)) (k:Nat) (s:St) (o:Oper) (e:Eff),l[i]? = some (o,e)→D (k+i)=false→(∀j p,i<j→l[j]? = some p→D (k+j)=true→Apart2 o.dst e p.1.dst p.2)→
  stD (fun x=>if x=k+i then true else D x) k l s=(stD D k l s).eff o.dst e
 |[],_,_,_,_,h,_,_=>by simp at h
 |(o',e')::l,k,s,o,e,h,hD,ha=>by
  cases i with
  |zero=>
   simp at h
   obtain⟨rfl,rfl⟩:=h
   simp only[stD,Nat.add_zero,if_true]
   rw[Nat.add_zero]at hD
   simp only[hD,Bool.false_eq_true,if_false]
   have hsame:∀(m:List (Oper × Eff)) (q:Nat) (t:St),k<q→stD (fun x=>if x=k then true else D x) q m t=stD D q m t:=fun m=>by
    induction m with
    |nil=>intros;rfl
    |cons p m ih=>
     intro q t hq
     obtain⟨o2,e2⟩:=p
     have hqk:¬q=k:=by omega
     simp only[stD,hqk,if_false]
     exact ih _ _ (by omega)
   rw[hsame _ _ _ (by omega)]
   exact alm_ l (k+1) s (fun j p hj hD2=>ha (j+1) p (by omega) (by simpa using hj) (by rwa [Nat.add_assoc,Nat.add_comm 1 j]at hD2))
  |succ i=>
   have hki:¬k=k+(i+1):=by omega
   simp only[stD,hki,if_false]
   rw[show k+(i+1)=k+1+i by omega]
   exact all_ l (k+1) _ o e (by simpa using h) (by rwa [show k+(i+1)=k+1+i by omega]at hD) (fun j p hij hj hD2=>ha (j+1) p (by omega) (by simpa using hj) (by rwa [Nat.add_assoc,Nat.add_comm 1 j]at hD2))
theorem a0u_ {D D':Nat→Bool} {t:Nat}:∀(l:List (Oper × Eff)) (k:Nat) (s s':St),s.σ.length=s'.σ.length→s.σ[t]? = s'.σ[t]?→(∀j p,l[j]? = some p→p.1.dst=some t→D (k+j)=D' (k+j))→(stD D k l s).σ[t]? = (stD D' k l s').σ[t]?
 |[],_,_,_,_,h,_=>h
 |(o,e)::l,k,s,s',hl,h,hw=>by
  simp only[stD]
  refine a0u_ l (k+1) _ _ ?_ ?_ (fun j p hj hd=>by have:=hw (j+1) p (by simpa using hj) hd;rwa [show k+(j+1)=k+1+j by omega]at this)
  ·have:∀(s:St),(s.eff o.dst e).σ.length=s.σ.length:=fun s=>by rw[sd_];cases o.dst<;>simp
   cases D k<;>cases D' k<;>simp[this,hl]
  have h0:=hw 0 (o,e) rfl
  simp only[Nat.add_zero]at h0
  have hne:o.dst≠some t→∀s:St,(s.eff o.dst e).σ[t]? = s.σ[t]?:=fun hd s=>by
   rw[sd_]
   cases hod:o.dst with
   |none=>rfl
   |some u=>simp only[];rw[List.getElem?_set_ne (fun hh=>hd (by rw[hod,hh]))]
  by_cases hd:o.dst=some t
  ·rw[h0 hd]
   cases D' k with
   |false=>simpa using h
   |true=>
    simp only[if_true]
    rw[sd_,sd_,hd]
    simp only[List.getElem?_set,hl]
    simp
  cases D k<;>cases D' k<;>simp only[if_true,Bool.false_eq_true,if_false,hne hd]<;>exact h
theorem azz_ {D D':Nat→Bool} {x:Nat}:∀(l:List (Oper × Eff)) (k:Nat) (s s':St),s.m x=s'.m x→(∀j p,l[j]? = some p→x∈p.2.wr.map (·.1)→D (k+j)=D' (k+j))→(stD D k l s).m x=(stD D' k l s').m x
 |[],_,_,_,h,_=>h
 |(o,e)::l,k,s,s',h,hw=>by
  simp only[stD]
  refine azz_ l (k+1) _ _ ?_ (fun j p hj hd=>by have:=hw (j+1) p (by simpa using hj) hd;rwa [show k+(j+1)=k+1+j by omega]at this)
  have h0:=hw 0 (o,e) rfl
  simp only[Nat.add_zero]at h0
  by_cases hd:x∈e.wr.map (·.1)
  ·rw[h0 hd]
   cases D' k with
   |false=>simpa using h
   |true=>simp only[if_true,avu_];exact aju_ hd
  cases D k<;>cases D' k<;>simp only[if_true,Bool.false_eq_true,if_false,avu_,k3_ hd]<;>exact h
theorem a0b_ {D:Nat→Bool} {x:Nat}:∀(l:List (Oper × Eff)) (k:Nat) (s:St),s.u x=false→(∀j p,l[j]? = some p→D (k+j)=true→x ∉ p.2.nw)→(stD D k l s).u x=false
 |[],_,_,h,_=>h
 |(o,e)::l,k,s,h,hw=>by
  simp only[stD]
  refine a0b_ l (k+1) _ ?_ (fun j p hj hd=>hw (j+1) p (by simpa using hj) (by rwa [show k+(j+1)=k+1+j by omega]))
  cases hD:D k with
  |false=>simpa using h
  |true=>
   have:=hw 0 (o,e) rfl (by simpa using hD)
   simp only[if_true,agk_,Eff.use,h,Bool.false_or]
   simpa using this
theorem u9_ {D:Nat→Bool}:∀(l:List (Oper × Eff)) (k:Nat) (s:St),(∀j,k≤j→D j=false)→stD D k l s=s
 |[],_,_,_=>rfl
 |(o,e)::l,k,s,h=>by simp only[stD,h k (Nat.le_refl _),Bool.false_eq_true,if_false];exact u9_ l (k+1) s fun j hj=>h j (by omega)
theorem Lex.len:∀ {l:List Oper} {s s':St} {es:List Eff},Lex E ops l s es s'→es.length=l.length
 |_,_,_,_,.nil _=>rfl
 |_,_,_,_,.cons _ _ r=>by simp[r.len]
theorem Lex.at:∀ {l:List Oper} {s s':St} {es:List Eff},Lex E ops l s es s'→∀(k i:Nat) (o:Oper) (e:Eff),(l.zip es)[i]? = some (o,e)→
  RS1 E ops o (stD (fun x=>decide (x<k+i)) k (l.zip es) s) e∧∀n∈e.nw,(stD (fun x=>decide (x<k+i)) k (l.zip es) s).u n=false
 |_,_,_,_,.nil _,_,_,_,_,h=>by simp at h
 |_,_,_,_,.cons (es:=es) (rest:=rest) (s:=s) h1 hn r,k,0,o,e,h=>by
  simp at h
  obtain⟨rfl,rfl⟩:=h
  rw[u9_ _ _ _ (fun j hj=>by simp;omega)]
  exact⟨h1,hn⟩
 |_,_,_,_,.cons h1 hn r,k,i+1,o,e,h=>by
  simp only[List.zip_cons_cons,stD]
  rw[if_pos (by simp)]
  have:=r.at (k+1) i o e (by simpa using h)
  rwa [show k+1+i=k+(i+1) by omega]at this
theorem Lex.fin:∀ {l:List Oper} {s s':St} {es:List Eff},Lex E ops l s es s'→∀k,stD (fun _=>true) k (l.zip es) s=s'
 |_,_,_,_,.nil _,_=>rfl
 |_,_,_,_,.cons _ _ r,k=>by simp only[List.zip_cons_cons,stD,if_true];exact r.fin (k+1)
inductive Ahead (ops:Array Oper):Nat→Nat→Prop
 |edge {j:Nat} {o:Oper} {e:Edge} (ho:ops[j]? = some o) (he:e∈o.after.toList) (hb:Region.binds .any e=true):Ahead ops e.on j
 |more {i j:Nat} {o:Oper} {e:Edge} (ho:ops[j]? = some o) (he:e∈o.after.toList) (hb:Region.binds .any e=true) (h:Ahead ops i e.on):Ahead ops i j
def arg_ (acc:List Nat) (o:Oper):Nat:=o.after.toList.foldl (fun s e=>if Region.binds .any e then s ||| 2 ^ e.on ||| acc.getD e.on 0 else s) 0
def alu_:List Oper→List Nat→List Nat
 |[],acc=>acc
 |o::r,acc=>alu_ r (acc++[arg_ acc o])
theorem zs_ {acc:List Nat} {i:Nat}:∀(l:List Edge) (s0:Nat),(l.foldl (fun s e=>if Region.binds .any e then s ||| 2 ^ e.on ||| acc.getD e.on 0 else s) s0).testBit i=true→
  s0.testBit i=true∨∃e∈l,Region.binds .any e=true∧(e.on=i∨(acc.getD e.on 0).testBit i=true)
 |[],s0,h=>.inl h
 |e::l,s0,h=>by
  rw[List.foldl_cons]at h
  rcases zs_ l _ h with h|⟨e',he',hb⟩
  ·cases hb:Region.binds .any e with
   |false=>simp only[hb,Bool.false_eq_true,if_false]at h;exact .inl h
   |true=>
    simp only[hb,if_true,Nat.testBit_or,Bool.or_eq_true,Nat.testBit_two_pow,decide_eq_true_eq]at h
    rcases h with(h|h)|h
    ·exact .inl h
    ·exact .inr ⟨e,by simp,hb,.inl h⟩
    exact .inr ⟨e,by simp,hb,.inr h⟩
  exact .inr ⟨e',by simp[he'],hb⟩
theorem st_:∀(l:List Oper) (acc:List Nat),(∀j,ops.toList[acc.length+j]? = l[j]?)→(∀j i,(acc.getD j 0).testBit i=true→Ahead ops i j)→∀j i,((alu_ l acc).getD j 0).testBit i=true→Ahead ops i j
 |[],acc,_,h=>h
 |o::l,acc,hl,h=>by
  simp only[alu_]
  refine st_ l _ (fun j=>?_) (fun j i hb=>?_)
  ·have:=hl (j+1)
   simpa[Nat.add_assoc,Nat.add_comm 1 j]using this
  rw[List.getD_eq_getElem?_getD]at hb
  rcases Nat.lt_trichotomy j acc.length with hj|hj|hj
  ·rw[List.getElem?_append_left hj,←List.getD_eq_getElem?_getD]at hb
   exact h j i hb
  ·subst hj
   simp only[List.getElem?_append_right (Nat.le_refl _),Nat.sub_self,List.getElem?_cons_zero,Option.getD_some]at hb
   have ho:ops[acc.length]? = some o:=by have:=hl 0;simpa using this
   rcases zs_ _ _ hb with h0|⟨e,he,hbd,h1⟩
   ·simp at h0
   rcases h1 with rfl|h1
   ·exact .edge ho he hbd
   exact .more ho he hbd (h _ _ h1)
  rw[List.getElem?_eq_none (by simp;omega)]at hb
  simp at hb
def cu_ (e:Eff):List Nat × List Nat:=(e.rd++e.wr.map (·.1),e.wr.map (·.1))
def ie_ (ops:Array Oper) (o1:Oper) (i1:List Nat × List Nat) (o2:Oper) (i2:List Nat × List Nat):Bool:=
 (match o1.dst with|some t=>(o2.looksAt ops).contains t||o2.dst==some t|none=>false)||
 (match o2.dst with|some t=>(o1.looksAt ops).contains t|none=>false)||
 i1.2.any (i2.1.contains ·)||i2.2.any (i1.1.contains ·)
def ja_ (ops:Array Oper) (infos:List (List Nat × List Nat)):Bool:=
 let cl:=alu_ ops.toList []
 ops.toList.zipIdx.all (fun(o,j)=>o.after.toList.all fun e=>!Region.binds .any e||decide (e.on<j))&&
 ((ops.toList.zip infos).zipIdx.all fun(p,j)=>((ops.toList.zip infos).zipIdx.take j).all fun(q,i)=>!ie_ ops q.1 q.2 p.1 p.2||(cl.getD j 0).testBit i)
theorem aed_ {infos:List (List Nat × List Nat)} (h:ja_ ops infos=true) :
  (∀j o,ops[j]? = some o→∀e∈o.after.toList,Region.binds .any e=true→e.on<j)∧
  (∀i j p q,i<j→(ops.toList.zip infos)[i]? = some q→(ops.toList.zip infos)[j]? = some p→ie_ ops q.1 q.2 p.1 p.2=true→Ahead ops i j):=by
 simp only[ja_,Bool.and_eq_true]at h
 obtain⟨h1,h2⟩:=h
 refine⟨fun j o ho e he hb=>?_,fun i j p q hij hq hp hc=>?_⟩
 ·have:=List.all_eq_true.1 h1 (o,j) (List.mem_of_getElem? (i:=j) (by rw[List.getElem?_zipIdx,Array.getElem?_toList,ho];simp))
  have:=List.all_eq_true.1 this e he
  simpa[hb]using this
 have h3:=List.all_eq_true.1 h2 (p,j) (List.mem_of_getElem? (i:=j) (by rw[List.getElem?_zipIdx,hp];simp))
 have h4:=List.all_eq_true.1 h3 (q,i) (List.mem_of_getElem? (i:=i) (by rw[List.getElem?_take_of_lt hij,List.getElem?_zipIdx,hq];simp))
 simp only[hc,Bool.not_true,Bool.false_or]at h4
 exact st_ ops.toList [] (fun j=>by simp) (fun j i hb=>by simp at hb) j i h4
theorem Ahead.listed {listed:Nat→Bool} (hcl:∀j o,listed j=true→ops[j]? = some o→∀e∈o.after.toList,Region.binds .any e=true→listed e.on=true) :
  ∀ {i j:Nat},Ahead ops i j→(listed j=true∨∀o,ops[j]? = some o→∀e∈o.after.toList,Region.binds .any e=true→listed e.on=true)→listed i=true:=by
 intro i j h
 induction h with
 |edge ho he hb=>exact fun h=>h.elim (fun h=>hcl _ _ h ho _ he hb) (fun h=>h _ ho _ he hb)
 |more ho he hb _ ih=>exact fun h=>ih (.inl (h.elim (fun h=>hcl _ _ h ho _ he hb) (fun h=>h _ ho _ he hb)))
theorem Op1.transfer {s2:St} (h:Op1 E o s e) (h1:∀x∈o.op.operands,s2.ev E x=s.ev E x) (h2:∀l∈e.rd,s2.m l=s.m l):Op1 E o s2 e:=
 fun s' g1 g2 g3=>h s' (fun x hx=>(g1 x hx).trans (h1 x hx)) (fun l hl=>(g2 l hl).trans (h2 l hl)) g3
theorem RS1.transfer {s2:St} (h:RS1 E ops o s e) (h1:∀t∈o.looksAt ops,s2.σ.getD t .no=s.σ.getD t .no) (h2:∀l∈e.rd,s2.m l=s.m l):RS1 E ops o s2 e:=by
 have hop:∀x∈o.op.operands,s2.ev E x=s.ev E x:=fun x hx=>by
  cases x with
  |tmp t=>exact h1 t (by simp only[Oper.looksAt,List.mem_append,List.mem_filterMap];exact .inl ⟨.tmp t,Array.mem_toList_iff.2 hx,rfl⟩)
  |_=>rfl
 unfold RS1 at h ⊢
 cases hg:o.guard with
 |none=>simp only[hg]at h ⊢;exact h.transfer hop h2
 |some jf=>
  obtain⟨j,f⟩:=jf
  simp only[hg]at h ⊢
  obtain⟨d,c,hd,hc,h⟩:=h
  have e1:s2.σ.getD d .no=s.σ.getD d .no:=h1 d (by simp only[Oper.looksAt,hg,List.mem_append,hd];exact .inr (by simp))
  refine⟨d,c,hd,by rw[e1];exact hc,?_⟩
  rw[e1]
  rcases h with⟨v,he,hv⟩|⟨ht,hop'⟩|h
  ·exact .inl ⟨v,he,fun hgc=>(hv hgc).transfer hop h2⟩
  ·exact .inr (.inl ⟨ht,hop'.transfer hop h2⟩)
  exact .inr (.inr h)
end
end
section
open Go.RowKit
section
variable {E:Env} {C:Cx} {φ:Phi} {s s':St} {a:Act} {w w':World} {ops:Array Oper} {Q:Exit→Act→World→Prop}
theorem ya_ {α:Type} {p q:α→Bool}:∀ {l:List α},(∀x∈l,q x=true→p x=true)→(∃x∈l,p x=true∧q x=false)→(l.filter q).length<(l.filter p).length
 |[],_,⟨x,hx,_⟩=>by cases hx
 |y::l,h,⟨x,hx,hp,hq⟩=>by
  have hle:∀(l:List α),(∀x∈l,q x=true→p x=true)→(l.filter q).length≤(l.filter p).length:=fun l=>by
   induction l with
   |nil=>intro _;simp
   |cons z l ih=>
    intro h
    have ih:=ih fun x hx=>h x (by simp[hx])
    have hz:=h z (by simp)
    cases hqz:q z<;>cases hpz:p z<;>simp[List.filter_cons,hqz,hpz]<;>first|omega|(simp[hqz,hpz]at hz)
  have hl:=hle l fun x hx=>h x (by simp[hx])
  rcases List.mem_cons.1 hx with rfl|hx
  ·simp[List.filter_cons,hp,hq];omega
  have ih:=ya_ (l:=l) (fun x hx=>h x (by simp[hx])) ⟨x,hx,hp,hq⟩
  have hy:=h y (by simp)
  cases hqy:q y<;>cases hpy:p y<;>simp[List.filter_cons,hqy,hpy]<;>first|omega|(simp[hqy,hpy]at hy)
def unl (n:Nat) (listed:Array Bool):Nat:=((List.range n).filter fun i=>!listed.getD i true).length
theorem vv_ {o1 o2:Oper} {i1 i2:List Nat × List Nat} {t:Nat} (h1:o1.dst=some t) (h2:t∈o2.looksAt ops∨o2.dst=some t):ie_ ops o1 i1 o2 i2=true:=by
 unfold ie_
 simp only[h1,Bool.or_eq_true]
 rcases h2 with h2|h2
 ·exact .inl (.inl (.inl (.inl (by simpa using h2))))
 exact .inl (.inl (.inl (.inr (by simp[h2]))))
theorem ah7_ {o1 o2:Oper} {i1 i2:List Nat × List Nat} {t:Nat} (h1:o2.dst=some t) (h2:t∈o1.looksAt ops):ie_ ops o1 i1 o2 i2=true:=by
 unfold ie_
 simp only[h1,Bool.or_eq_true]
 exact .inl (.inl (.inr (by simpa using h2)))
theorem aej_ {o1 o2:Oper} {i1 i2:List Nat × List Nat} {x:Nat} (h1:x∈i1.2) (h2:x∈i2.1):ie_ ops o1 i1 o2 i2=true:=by
 unfold ie_
 simp only[Bool.or_eq_true]
 exact .inl (.inr (List.any_eq_true.2 ⟨x,h1,by simpa using h2⟩))
theorem apq_ {o1 o2:Oper} {i1 i2:List Nat × List Nat} {x:Nat} (h1:x∈i2.2) (h2:x∈i1.1):ie_ ops o1 i1 o2 i2=true:=by
 unfold ie_
 simp only[Bool.or_eq_true]
 exact .inr (List.any_eq_true.2 ⟨x,h1,by simpa using h2⟩)
theorem aii_ {es:List Eff} (hl:Lex E ops ops.toList s es s') (hB:ja_ ops (es.map cu_)=true) (hQ:∀φ' a' w',RelAt E C φ' s' a' w'→Q .normal a' w') :
  ∀(fuel:Nat) (listed:Array Bool) (a:Act) (w:World) (φ:Phi),listed.size=ops.size→unl ops.size listed≤fuel→
   (∀j o,listed.getD j false=true→ops[j]? = some o→∀e∈o.after.toList,Region.binds .any e=true→listed.getD e.on false=true)→
   RelAt E C φ (stD (fun i=>listed.getD i false) 0 (ops.toList.zip es) s) a w→wpAny E.P .any ops Q fuel listed a w:=by
 obtain⟨hback,hclash⟩:=aed_ hB
 have hlen:=hl.len
 have hzipAt:∀(j:Nat) (p:Oper × Eff),(ops.toList.zip es)[j]? = some p→(ops.toList.zip (es.map cu_))[j]? = some (p.1,cu_ p.2):=fun j p hp=>by
  rw[List.getElem?_zip_eq_some]at hp ⊢
  exact⟨hp.1,by simp[hp.2]⟩
 have hopAt:∀(j:Nat) (p:Oper × Eff),(ops.toList.zip es)[j]? = some p→ops[j]? = some p.1:=fun j p hp=>by
  rw[List.getElem?_zip_eq_some]at hp
  rw[←Array.getElem?_toList];exact hp.1
 have hzip:∀(j:Nat) (o:Oper),ops[j]? = some o→∃e,(ops.toList.zip es)[j]? = some (o,e):=fun j o ho=>by
  have hj:j<es.length:=by
   have:=(Array.getElem?_eq_some_iff.1 ho).1
   rw[hlen];simpa using this
  exact⟨es[j],by rw[List.getElem?_zip_eq_some];exact⟨by rw[Array.getElem?_toList];exact ho,List.getElem?_eq_getElem hj⟩⟩
 -- nothing is ready: all is done
 have alldone:∀(listed:Array Bool),listed.size=ops.size→Region.ready .any ops listed=[]→∀j,j<ops.size→listed.getD j false=true:=fun listed hsz hr=>by
  intro j
  induction j using Nat.strongRecOn with
  |_ j ih=>
   intro hj
   cases hh:listed.getD j false with
   |true=>rfl
   |false=>
    have:j∈Region.ready .any ops listed:=mem_ready.2 ⟨by
     have h1:j<listed.size:=by omega
     simp only[Array.getD_eq_getD_getElem?,Array.getElem?_eq_getElem h1,Option.getD_some]at hh ⊢
     exact hh,ops[j],Array.getElem?_eq_getElem hj,fun e he hb=>ih e.on (hback j ops[j] (Array.getElem?_eq_getElem hj) e (Array.mem_toList_iff.2 he) hb) (by have:=hback j ops[j] (Array.getElem?_eq_getElem hj) e (Array.mem_toList_iff.2 he) hb;omega)⟩
    rw[hr]at this;cases this
 have finish:∀(listed:Array Bool) (a:Act) (w:World) (φ:Phi),listed.size=ops.size→Region.ready .any ops listed=[]→RelAt E C φ (stD (fun i=>listed.getD i false) 0 (ops.toList.zip es) s) a w→Q .normal a w:=fun listed a w φ hsz hr h=>by
  have hall:=alldone listed hsz hr
  have:stD (fun i=>listed.getD i false) 0 (ops.toList.zip es) s=s':=by
   rw[←hl.fin 0]
   have hcongr:∀(l:List (Oper × Eff)) (k:Nat) (t:St),(∀j,j<l.length→listed.getD (k+j) false=true)→stD (fun i=>listed.getD i false) k l t=stD (fun _=>true) k l t:=fun l=>by
    induction l with
    |nil=>intros;rfl
    |cons p l ih=>
     intro k t hh
     obtain⟨o,e⟩:=p
     have h0:=hh 0 (by simp)
     rw[Nat.add_zero]at h0
     simp only[stD,h0,if_true]
     exact ih _ _ fun j hj=>by have:=hh (j+1) (by simpa using hj);rwa [show k+1+j=k+(j+1) by omega]
   exact hcongr _ _ _ fun j hj=>by rw[Nat.zero_add];exact hall j (by simp[List.length_zip,hlen]at hj;exact hj)
  rw[this]at h
  exact hQ φ a w h
 intro fuel
 induction fuel with
 |zero=>
  intro listed a w φ hsz hu hcl hr
  have h0:Region.ready .any ops listed=[]:=by
   apply List.eq_nil_iff_forall_not_mem.2
   intro j hj
   obtain⟨hjl,o,ho,_⟩:=mem_ready.1 hj
   have hlt:=(Array.getElem?_eq_some_iff.1 ho).1
   have:j∈(List.range ops.size).filter fun i=>!listed.getD i true:=List.mem_filter.2 ⟨List.mem_range.2 hlt,by rw[hjl];rfl⟩
   have:=List.length_pos_of_mem this
   unfold unl at hu
   omega
  exact⟨h0,finish listed a w φ hsz h0 hr⟩
 |succ fuel ih=>
  intro listed a w φ hsz hu hcl hr
  refine⟨fun h0=>finish listed a w φ hsz h0 hr,fun i hi=>?_⟩
  obtain⟨hil,o,ho,hedges⟩:=mem_ready.1 hi
  have hlt:=(Array.getElem?_eq_some_iff.1 ho).1
  have hlt':i<listed.size:=by omega
  have hil':listed.getD i false=false:=by
   simp only[Array.getD_eq_getD_getElem?,Array.getElem?_eq_getElem hlt',Option.getD_some]at hil ⊢
   exact hil
  have hedges':∀o',ops[i]? = some o'→∀e∈o'.after.toList,Region.binds .any e=true→listed.getD e.on false=true:=fun o' ho' e he hb=>by
   rw[ho]at ho';cases ho'
   exact hedges e (Array.mem_toList_iff.1 he) hb
  obtain⟨e,hz⟩:=hzip i o ho
  obtain⟨hRS,hfr⟩:=hl.at 0 i o e hz
  simp only[Nat.zero_add]at hRS hfr
  -- who meets i stands a0s in the text
  have hord:∀j p,(ops.toList.zip es)[j]? = some p→(j<i→ie_ ops p.1 (cu_ p.2) o (cu_ e)=true→listed.getD j false=true)∧(i<j→ie_ ops o (cu_ e) p.1 (cu_ p.2)=true→listed.getD j false=false):=fun j p hp=>by
   refine⟨fun hji hc=>?_,fun hij hc=>?_⟩
   ·exact(hclash j i _ _ hji (hzipAt j p hp) (hzipAt i _ hz) hc).listed (listed:=fun k=>listed.getD k false) hcl (.inr hedges')
   have ha:=hclash i j _ _ hij (hzipAt i _ hz) (hzipAt j p hp) hc
   cases hh:listed.getD j false with
   |false=>rfl
   |true=>
    have:=ha.listed (listed:=fun k=>listed.getD k false) hcl (.inl hh)
    simp only[hil']at this;cases this
  have hslot:∀t∈o.looksAt ops,(stD (fun k=>listed.getD k false) 0 (ops.toList.zip es) s).σ.getD t .no=(stD (fun x=>decide (x<i)) 0 (ops.toList.zip es) s).σ.getD t .no:=fun t ht=>by
   rw[List.getD_eq_getElem?_getD,List.getD_eq_getElem?_getD]
   congr 1
   refine a0u_ _ 0 s s rfl rfl fun j p hp hd=>?_
   simp only[Nat.zero_add]
   rcases Nat.lt_trichotomy j i with h|h|h
   ·rw[(hord j p hp).1 h (vv_ hd (.inl ht))];simp[h]
   ·subst h;rw[hil'];simp
   rw[(hord j p hp).2 h (ah7_ hd ht)];simp;omega
  have hmem:∀x∈e.rd,(stD (fun k=>listed.getD k false) 0 (ops.toList.zip es) s).m x=(stD (fun x=>decide (x<i)) 0 (ops.toList.zip es) s).m x:=fun x hx=>by
   refine azz_ _ 0 s s rfl fun j p hp hd=>?_
   simp only[Nat.zero_add]
   have hx1:x∈(cu_ e).1:=by simp[cu_,hx]
   rcases Nat.lt_trichotomy j i with h|h|h
   ·have hc:ie_ ops p.1 (cu_ p.2) o (cu_ e)=true:=aej_ hd hx1
    rw[(hord j p hp).1 h hc];simp[h]
   ·subst h;rw[hil'];simp
   have hc:ie_ ops o (cu_ e) p.1 (cu_ p.2)=true:=apq_ hd hx1
   rw[(hord j p hp).2 h hc];simp;omega
  have hRS':=hRS.transfer hslot hmem
  have hlexu:∀x,(stD (fun x=>decide (x<i)) 0 (ops.toList.zip es) s).u x=false→s.u x=false:=fun x=>by
   have hmono:∀(l:List (Oper × Eff)) (k:Nat) (D:Nat→Bool) (t:St),(stD D k l t).u x=false→t.u x=false:=fun l=>by
    induction l with
    |nil=>intro _ _ _ h;exact h
    |cons p l ih=>
     intro k D t h
     obtain⟨o,e⟩:=p
     simp only[stD]at h
     have:=ih _ _ _ h
     cases hD:D k with
     |false=>simpa[hD]using this
     |true=>
      simp only[hD,if_true,agk_,Eff.use,Bool.or_eq_false_iff]at this
      exact this.1
   exact hmono _ _ _ _
  have hnew:∀x∈e.nw,(stD (fun k=>listed.getD k false) 0 (ops.toList.zip es) s).u x=false:=fun x hx=>by
   refine a0b_ _ 0 s (hlexu x (hfr x hx)) fun j p hp hD hxp=>?_
   simp only[Nat.zero_add]at hD
   have hinc:∀(l:List (Oper × Eff)) (k n:Nat) (t:St) (q:Oper × Eff),n<k+l.length→k≤n→l[n - k]? = some q→x∈q.2.nw→∀D:Nat→Bool,D n=true→(stD D k l t).u x=true:=fun l=>by
    have hkeep:∀(l:List (Oper × Eff)) (k:Nat) (D:Nat→Bool) (t:St),t.u x=true→(stD D k l t).u x=true:=fun l=>by
     induction l with
     |nil=>intro _ _ _ h;exact h
     |cons p l ih=>
      intro k D t h
      obtain⟨o,e⟩:=p
      simp only[stD]
      refine ih _ _ _ ?_
      cases D k<;>simp[agk_,Eff.use,h]
    induction l with
    |nil=>intro k n t q h1 h2;simp at h1;omega
    |cons p l ih=>
     intro k n t q h1 h2 h3 h4 D hD
     obtain⟨o,e⟩:=p
     simp only[stD]
     rcases Nat.eq_or_lt_of_le h2 with h5|h5
     ·subst h5
      simp at h3
      subst h3
      rw[hD,if_pos rfl]
      refine hkeep _ _ _ _ ?_
      simp only[agk_,Eff.use,Bool.or_eq_true]
      exact .inr (by simpa using h4)
     refine ih (k+1) n _ q (by simp at h1;omega) h5 ?_ h4 D hD
     rw[show n - k=(n - (k+1))+1 by omega]at h3
     simpa using h3
   have hjl:j<(ops.toList.zip es).length:=(List.getElem?_eq_some_iff.1 hp).1
   have hil2:i<(ops.toList.zip es).length:=(List.getElem?_eq_some_iff.1 hz).1
   rcases Nat.lt_trichotomy j i with h|h|h
   ·have:=hinc (ops.toList.zip es) 0 j s p (by omega) (by omega) (by simpa using hp) hxp (fun x=>decide (x<i)) (by simp[h])
    rw[hfr x hx]at this;cases this
   ·subst h;rw[hil']at hD;cases hD
   have hj:=(hl.at 0 j p.1 p.2 hp).2 x hxp
   simp only[Nat.zero_add]at hj
   have:=hinc (ops.toList.zip es) 0 i s (o,e) (by omega) (by omega) (by simpa using hz) hx (fun x=>decide (x<j)) (by simp[h])
   rw[hj]at this;cases this
  have hadd:stD (fun x=>(listed.setIfInBounds i true).getD x false) 0 (ops.toList.zip es) s=(stD (fun k=>listed.getD k false) 0 (ops.toList.zip es) s).eff o.dst e:=by
   have e0:(fun x=>(listed.setIfInBounds i true).getD x false)=fun x=>if x=0+i then true else listed.getD x false:=by
    funext x
    rw[Nat.zero_add]
    by_cases hx:x=i
    ·subst hx;simp[hlt']
    rw[if_neg hx,getD_set_ne false (Ne.symm hx)]
   rw[e0]
   refine all_ _ 0 s o e hz (by rw[Nat.zero_add];exact hil') fun j p hij hp hD=>?_
   rw[Nat.zero_add]at hD
   have hnc:ie_ ops o (cu_ e) p.1 (cu_ p.2)=false:=by
    cases hc:ie_ ops o (cu_ e) p.1 (cu_ p.2)with
    |false=>rfl
    |true=>rw[(hord j p hp).2 hij hc]at hD;cases hD
   refine⟨fun t ht hpt=>?_,fun x hx hxp=>?_⟩
   ·rw[vv_ ht (.inr hpt)]at hnc;cases hnc
   rw[aej_ (x:=x) hx (by simp only[cu_,List.mem_append];exact .inr hxp)]at hnc;cases hnc
  have hrun:=hRS'.run hnew hr (K:=wpAny E.P .any ops Q fuel (listed.setIfInBounds i true)) (Q:=Q) (fun φ' a' w' hr'=>by
   refine ih _ a' w' φ' (by simpa using hsz) ?_ (fun j o' hj ho' e' he' hb=>?_) (by rw[hadd];exact hr')
   ·have:unl ops.size (listed.setIfInBounds i true)<unl ops.size listed:=by
     unfold unl
     refine ya_ (fun x _ hx=>?_) ⟨i,List.mem_range.2 hlt,by rw[hil];rfl,by simp[hlt']⟩
     by_cases hxi:x=i
     ·subst hxi;simp[hlt']at hx
     rw[getD_set_ne true (Ne.symm hxi)]at hx;exact hx
    omega
   by_cases hji:j=i
   ·subst hji
    exact getD_set_true (hedges' o' ho' e' he' hb)
   rw[getD_set_ne false (Ne.symm hji)]at hj
   exact getD_set_true (hcl j o' hj ho' e' he' hb))
  unfold wpOp
  simp only[ho]
  split
  ·rename_i hw;rw[if_pos hw]at hrun;exact .inl hrun
  rename_i hw;rw[if_neg hw]at hrun;exact hrun
theorem ac5_ {id:Nat} {es:List Eff} (hm:E.P.follows .mixedOrders=true) (hl:Lex E ops ops.toList s es s') (hB:ja_ ops (es.map cu_)=true) (hr:RelAt E C φ s a w) (hQ:∀φ' a' w',RelAt E C φ' s' a' w'→Q .normal a' w') :
  (Code.region id ops true).wp E.P Q a w:=by
 refine wp_region_any hm (aii_ hl hB hQ _ _ a _ φ (by simp) ?_ (fun j o hj=>?_) ?_)
 ·unfold unl
  exact Nat.le_trans (List.length_filter_le _ _) (by simp)
 ·rw[Array.getD_eq_getD_getElem?]at hj
  simp only[Array.getElem?_replicate]at hj
  split at hj<;>simp at hj
 have:∀i,(Array.replicate ops.size false).getD i false=false:=fun i=>by
  rw[Array.getD_eq_getD_getElem?,Array.getElem?_replicate];split<;>rfl
 rw[u9_ _ _ _ (fun j _=>this j)]
 exact hr.drew
end
end
section
open Go.RowKit
mutual
def V.inn (u:Nat→Bool):V→Bool
 |.ow l _ _ _|.pt l _ _ _=>u l
 |.sl _ rows=>au_ u rows
 |.rp cs|.ag cs|.tu cs=>as_ u cs
 |.fn _ a c=>as_ u a&&as_ u c
 |.gd _ v=>V.inn u v
 |_=>true
def as_ (u:Nat→Bool):List V→Bool
 |[]=>true
 |v::r=>V.inn u v&&as_ u r
def au_ (u:Nat→Bool):List (List V)→Bool
 |[]=>true
 |v::r=>as_ u v&&au_ u r
end
mutual
theorem agm_ (u:Nat→Bool):∀v:V,v.pure=true→v.inn u=true
 |.ow _ _ _ _,h|.pt _ _ _ _,h=>by simp[V.pure]at h
 |.sl t rows,h=>by simp only[V.pure]at h;simp only[V.inn,m0_ u rows h]
 |.rp cs,h=>by simp only[V.pure]at h;simp only[V.inn,hl_ u cs h]
 |.ag cs,h=>by simp only[V.pure]at h;simp only[V.inn,hl_ u cs h]
 |.tu cs,h=>by simp only[V.pure]at h;simp only[V.inn,hl_ u cs h]
 |.fn f a c,h=>by simp only[V.pure,Bool.and_eq_true]at h;simp only[V.inn,hl_ u a h.1,hl_ u c h.2,Bool.and_true]
 |.gd c v,h=>by simp only[V.pure]at h;simp only[V.inn,agm_ u v h]
 |.i _ _,_|.b _,_|.s _,_|.np,_|.no,_|.q _,_=>by simp only[V.inn]
theorem hl_ (u:Nat→Bool):∀v:List V,bu_ v=true→as_ u v=true
 |[],_=>by simp only[as_]
 |v::r,h=>by simp only[bu_,Bool.and_eq_true]at h;simp only[as_,agm_ u v h.1,hl_ u r h.2,Bool.and_true]
theorem m0_ (u:Nat→Bool):∀v:List (List V),bg_ v=true→au_ u v=true
 |[],_=>by simp only[au_]
 |v::r,h=>by simp only[bg_,Bool.and_eq_true]at h;simp only[au_,hl_ u v h.1,m0_ u r h.2,Bool.and_true]
end
section
variable {φ ψ:Phi} {S:Nat→Prop} {w:World} {u:Nat→Bool}
mutual
theorem VR.inn (hφ:∀l,u l=true→ψ l=φ l):∀ {v:V} {x:Value},v.inn u=true→VR φ S w v x→VR ψ S w v x
 |.ow l z o n,x,h,k=>by simp only[V.inn]at h;simp only[VR,hφ l h]at k ⊢;exact k
 |.pt l z o n,x,h,k=>by simp only[V.inn]at h;simp only[VR,hφ l h]at k ⊢;exact k
 |.sl t rows,x,h,k=>by
  simp only[V.inn]at h
  simp only[VR]at k ⊢
  obtain⟨A,c,z,xs,h1,h2,h3,h4,h5,h6⟩:=k
  exact⟨A,c,z,xs,h1,h2,h3,h4,h5,VRr.inn hφ h h6⟩
 |.rp cs,x,h,k=>by
  simp only[V.inn]at h
  simp only[VR]at k ⊢
  obtain⟨g,o,xs,h1,h2,h3,h4,h5⟩:=k
  exact⟨g,o,xs,h1,h2,h3,h4,VRs.inn hφ h h5⟩
 |.ag cs,x,h,k=>by
  simp only[V.inn]at h
  simp only[VR]at k ⊢
  obtain⟨xs,h1,h2⟩:=k
  exact⟨xs,h1,VRs.inn hφ h h2⟩
 |.tu cs,x,h,k=>by
  simp only[V.inn]at h
  simp only[VR]at k ⊢
  obtain⟨xs,h1,h2⟩:=k
  exact⟨xs,h1,VRs.inn hφ h h2⟩
 |.fn f a c,x,h,k=>by
  simp only[V.inn,Bool.and_eq_true]at h
  simp only[VR]at k ⊢
  obtain⟨a',c',h1,h2,h3⟩:=k
  exact⟨a',c',h1,VRs.inn hφ h.1 h2,VRs.inn hφ h.2 h3⟩
 |.gd c v,x,h,k=>by
  simp only[V.inn]at h
  simp only[VR]at k ⊢
  exact⟨fun hc=>VR.inn hφ h (k.1 hc),k.2⟩
 |.i _ _,_,_,k|.b _,_,_,k|.s _,_,_,k|.np,_,_,k|.no,_,_,k|.q _,_,_,k=>by simp only[VR]at k ⊢<;>exact k
theorem VRs.inn (hφ:∀l,u l=true→ψ l=φ l):∀ {vs:List V} {xs:List Value},as_ u vs=true→VRs φ S w vs xs→VRs ψ S w vs xs
 |[],_,_,k=>by simp only[VRs]at k ⊢;exact k
 |v::vs,xs,h,k=>by
  simp only[as_,Bool.and_eq_true]at h
  simp only[VRs]at k ⊢
  obtain⟨x,r,h1,h2,h3⟩:=k
  exact⟨x,r,h1,VR.inn hφ h.1 h2,VRs.inn hφ h.2 h3⟩
theorem VRr.inn (hφ:∀l,u l=true→ψ l=φ l) {z:Nat}:∀ {rs:List (List V)} {xs:List Value},au_ u rs=true→VRr φ S w z rs xs→VRr ψ S w z rs xs
 |[],_,_,k=>by simp only[VRr]at k ⊢;exact k
 |r::rs,xs,h,k=>by
  simp only[au_,Bool.and_eq_true]at h
  simp only[VRr]at k ⊢
  obtain⟨ys,zs,h1,h2,h3,h4,h5⟩:=k
  exact⟨ys,zs,h1,h2,VRs.inn hφ h.1 h3,h4,VRr.inn hφ h.2 h5⟩
end
end
section
variable {E:Env} {C:Cx} {φ:Phi} {s s':St} {a:Act} {w w':World}
structure Weak (s s':St):Prop where
 σ:les s.σ s'.σ
 inn:as_ s'.u s'.σ=true
 m:∀l b,s'.m l=some b→s.m l=some b∧s'.u l=true∧au_ s'.u b.rows=true
 low:∀l,tc_ l=true→s'.u l=true
theorem RelAt.weak (h:RelAt E C φ s a w) (k:Weak s s'):∃φ',RelAt E C φ' s' a w:=by
 let φ':Phi:=fun l=>if s'.u l then φ l else none
 have hφ:∀l,s'.u l=true→φ' l=φ l:=fun l hl=>by simp only[φ',hl,if_true]
 have hsub:∀l x,φ' l=some x→φ l=some x:=fun l x hx=>by
  cases hl:s'.u l with
  |true=>rw[hφ l hl]at hx;exact hx
  |false=>simp only[φ',hl,Bool.false_eq_true,if_false]at hx;cases hx
 have hS:∀g,C.S φ s.m g→C.S φ' s'.m g:=fun g hg=>⟨hg.1,fun l b hb h1=>hg.2 l b (k.m l b hb).1 (hsub _ _ h1)⟩
 have hk:KeepsW φ φ (C.S φ s.m) (C.S φ' s'.m) w w:=⟨fun _ _ h=>h,fun g hg _=>⟨hS g hg,rfl⟩,Nat.le_refl _,fun _ _ h=>h⟩
 refine⟨φ',h.defers,VRs.inn hφ k.inn ((h.slots.le k.σ).keep hk),fun l b hb=>?_,fun l l' b b' g h1 h2 h3 h4=>h.inj l l' b b' g (k.m l b h1).1 (k.m l' b' h2).1 (hsub _ _ h3) (hsub _ _ h4),
  fun l b g h1 h3=>h.own l b g (k.m l b h1).1 (hsub _ _ h3),fun l hl=>?_,fun l x hx=>?_,h.frame,fun g cs hg=>(h.glob g cs hg).keep (φ':=fun _=>none) ⟨fun _ _ h=>h,fun g hg _=>⟨hS g hg,rfl⟩,Nat.le_refl _,fun _ _ h=>h⟩,h.lad⟩
 ·obtain⟨m1,m2,m3⟩:=k.m l b hb
  rcases h.mem l b m1 with⟨h1,h2⟩|⟨g,arr,xs,h1,h2,h3,h4,hzz⟩|⟨g,es,ck,xs,h1,h2,h3,h4,h5⟩
  ·exact .inl ⟨by rw[hφ l m2];exact h1,h2⟩
  ·exact .inr (.inl ⟨g,arr,xs,by rw[hφ l m2];exact h1,h2,VRr.inn hφ m3 (h3.keep hk),h4,hzz⟩)
  exact .inr (.inr ⟨g,es,ck,xs,by rw[hφ l m2];exact h1,h2,h3,VRr.inn hφ m3 (h4.keep hk),h5⟩)
 ·cases hu:s'.u l with
  |true=>rfl
  |false=>simp only[φ',hu,Bool.false_eq_true,if_false]at hl;exact absurd rfl hl
 have hl:=C.low l (by rw[hx];simp)
 rw[hφ l (k.low l hl)]
 exact h.phi0 l x hx
def Can (E:Env) (C:Cx) (s s':St):Prop:=∀φ a w,RelAt E C φ s a w→∃φ',RelAt E C φ' s' a w
theorem Can.refl:Can E C s s:=fun φ _ _ h=>⟨φ,h⟩
theorem Can.trans {s1 s2 s3:St} (h:Can E C s1 s2) (k:Can E C s2 s3):Can E C s1 s3:=fun φ a w hr=>
 let ⟨φ',h'⟩:=h φ a w hr
 k φ' a w h'
theorem Can.weak (h:Weak s s'):Can E C s s':=fun φ a w hr=>hr.weak h
/-! ### code -/
def AWp (E:Env) (C:Cx) (c:Code) (Q:Exit→St→Prop) (s:St):Prop:=
 ∀φ a w,RelAt E C φ s a w→c.wp E.P (fun e a' w'=>∃φ' s',Q e s'∧RelAt E C φ' s' a' w') a w
variable {Q Q':Exit→St→Prop}
def ami_ (K:St→Prop) (Q:Exit→St→Prop):Exit→St→Prop
 |.normal,s=>K s
 |e,s=>Q e s
def au6_ (id:Nat) (Q:Exit→St→Prop):Exit→St→Prop
 |.exit id',s=>if id'=id then Q .normal s else Q (.exit id') s
 |e,s=>Q e s
theorem AWp.weak {c:Code} (h:AWp E C c Q s') (k:Weak s s'):AWp E C c Q s:=fun φ a w hr=>
 let ⟨φ',hr'⟩:=hr.weak k
 h φ' a w hr'
theorem AWp.can {c:Code} (k:Can E C s s') (h:AWp E C c Q s'):AWp E C c Q s:=fun φ a w hr=>
 let ⟨φ',hr'⟩:=k φ a w hr
 h φ' a w hr'
theorem AWp.mono {c:Code} (h:AWp E C c Q s) (hq:∀e s,Q e s→Q' e s):AWp E C c Q' s:=fun φ a w hr=>
 wp_mono (h φ a w hr) fun e a w ⟨φ',s',q,r⟩=>⟨φ',s',hq e s' q,r⟩
theorem AWp.seq {x y:Code} (h:AWp E C x (ami_ (AWp E C y Q) Q) s):AWp E C (.seq x y) Q s:=fun φ a w hr=>
 wp_seq (wp_mono (h φ a w hr) fun e a' w' ⟨φ',s',q,r⟩=>by
  cases e with
  |normal=>exact q φ' a' w' r
  |_=>exact⟨φ',s',q,r⟩)
theorem AWp.cond {c:Operand} {x y:Code} {t:Bool} (hp:dg_ (s.ev E c)=true) (hc:s.pv E c = .b t) (h:if t then AWp E C x Q s else AWp E C y Q s):AWp E C (.cond c x y) Q s:=fun φ a w hr=>by
 have:=hr.pv hp
 rw[hc]at this
 simp only[VR]at this
 refine wp_cond this ?_
 cases t
 ·exact h φ a w hr
 exact h φ a w hr
theorem AWp.skip (h:Q .normal s):AWp E C .skip Q s:=fun φ a w hr=>wp_skip ⟨φ,s,h,hr⟩
theorem AWp.exit {id:Nat} (h:Q (.exit id) s):AWp E C (.exit id) Q s:=fun φ a w hr=>wp_exit ⟨φ,s,h,hr⟩
theorem AWp.ret (h:Q .ret s):AWp E C .ret Q s:=fun φ a w hr=>wp_ret ⟨φ,s,h,hr⟩
theorem AWp.block {id:Nat} {c:Code} (h:AWp E C c (au6_ id Q) s):AWp E C (.block id c) Q s:=fun φ a w hr=>
 wp_block (wp_mono (h φ a w hr) fun e a' w' ⟨φ',s',q,r⟩=>by
  cases e with
  |exit id'=>
   simp only[au6_]at q
   simp only[Exit.inBlock]
   split
   ·rename_i hh;rw[if_pos hh]at q;exact⟨φ',s',q,r⟩
   rename_i hh;rw[if_neg hh]at q;exact⟨φ',s',q,r⟩
  |_=>exact⟨φ',s',q,r⟩)
theorem AWp.region {id:Nat} {l:List Oper} {es:List Eff} (hl:Lex E l.toArray l s es s') (h:Q .normal s'):AWp E C (.region id l.toArray false) Q s:=fun φ a w hr=>
 wp_region_lit (hl.run hr fun φ' _ _ hr'=>⟨φ',s',h,hr'⟩)
theorem AWp.regionDraw {id:Nat} {l:List Oper} {es:List Eff} (hm:E.P.follows .mixedOrders=true) (hl:Lex E l.toArray l s es s') (hB:ja_ l.toArray (es.map cu_)=true) (h:Q .normal s'):AWp E C (.region id l.toArray true) Q s:=fun φ a w hr=>
 ac5_ hm (by simpa using hl) hB hr fun φ' _ _ hr'=>⟨φ',s',h,hr'⟩
open Classical in
theorem AWp.loop {c:Code} (I:Nat→St→Prop) {n:Nat} (h0:I n s) (h:∀n s,I n s→AWp E C c (ami_ (fun s'=>∃m s'',m<n∧I m s''∧Can E C s' s'') Q) s):AWp E C (.loop c) Q s:=fun φ a w hr=>by
 let J:Act→World→Nat→Prop:=fun a w n=>∃s φ,I n s∧RelAt E C φ s a w
 have hex:∀a w,(∃n,J a w n)→∃n,J a w n∧∀m,J a w m→n≤m:=fun a w ⟨n,hn⟩=>by
  induction n using Nat.strongRecOn with
  |_ n ih=>
   by_cases hh:∃m,m<n∧J a w m
   ·obtain⟨m,hm,hJ⟩:=hh;exact ih m hm hJ
   exact⟨n,hn,fun m hm=>Nat.le_of_not_lt fun hlt=>hh ⟨m,hlt,hm⟩⟩
 let μ:Act→World→Nat:=fun a w=>if hh:∃n,J a w n then Classical.choose (hex a w hh)else 0
 have hμ:∀a w (hh:∃n,J a w n),J a w (μ a w)∧∀m,J a w m→μ a w≤m:=fun a w hh=>by
  simp only[μ,hh,dif_pos];exact Classical.choose_spec (hex a w hh)
 refine wp_loop (fun a w=>∃n,J a w n) μ ⟨n,s,φ,h0,hr⟩ fun a w hJ=>?_
 obtain⟨⟨s1,φ1,hI,hr1⟩,_⟩:=hμ a w hJ
 refine wp_mono (h _ s1 hI φ1 a w hr1) fun e a' w' ⟨φ',s',q,r⟩=>?_
 cases e with
 |normal=>
  obtain⟨m,s'',hm,hI',hw⟩:=q
  have hJ':J a' w' m:=by
   obtain⟨φ'',r'⟩:=hw φ' a' w' r;exact⟨_,φ'',hI',r'⟩
  refine⟨⟨m,hJ'⟩,?_⟩
  have:=(hμ a' w' ⟨m,hJ'⟩).2 m hJ'
  omega
 |_=>exact⟨φ',s',q,r⟩
end
end
end Go.Proofs.YthjccajoadjicaaGreatDoor
