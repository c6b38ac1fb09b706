/- Plain laws: sameness, without types; the words and their bounds. Conditions: none. -/
import Derived.Test.YthjccajoadjicaaGreatDoorMe
import Derived.Shelf.Strings.Builder1
import Derived.Shelf.Strings.Builder2
import Derived.Shelf.Strings.OnBuilder
import Derived.Shelf.Strings.BuilderF
import Derived.Shelf.Strings.BuilderK
import Derived.Shelf.Strings.Builder2Cap
import Derived.Shelf.Strconv.Atoi
import Derived.Shelf.Strconv.Itoa0
import Derived.Shelf.Strconv.Itoa1
import Derived.Shelf.LaysM
import Derived.Shelf.Strconv.Itoa2
import Derived.Shelf.Strconv.Itoa3
import Derived.Shelf.Strconv.AtoiErrFast
import Derived.Shelf.Strconv.ParseIntEmpty
import Derived.Shelf.Strconv.AtoiFail
import Derived.Shelf.Strconv.Clone
import Derived.Shelf.Strconv.SyntaxError
import Derived.Shelf.LaysC
import Derived.Shelf.Strconv.ToError
import Derived.Shelf.Strconv.Lower
import Derived.Shelf.Strconv.ParseUint10
import Derived.Shelf.Strconv.ParseUint10Empty
import Derived.Shelf.Strconv.ParseUint10Any
import Derived.Shelf.Strconv.ParseInt10
import Derived.Shelf.Strconv.AtoiLong
import Derived.Shelf.Strconv.AtoiInnerAll
import Derived.Shelf.Strconv.RangeError
import Derived.Shelf.Strconv.ToErrorRange
import Derived.Shelf.Strconv.AtoiAll
import Derived.Shelf.Strconv.ErrVarAll
import Derived.Shelf.Strings.Search1
import Derived.Shelf.Strings.Search2
import Derived.Shelf.Strings.Search3
import Derived.Shelf.Strings.Count
import Derived.Shelf.Strings.Shaped
import Derived.Shelf.Strings.Split
import Derived.Shelf.Unicode.DecodeSlow
import Derived.Shelf.Strings.BuilderCap
import Derived.Shelf.Slices.Turned
import Derived.Shelf.Slices.Equal
import Derived.Shelf.Slices.Empties2
set_option linter.unusedVariables false
set_option linter.unusedSimpArgs false
section
set_option maxRecDepth 100000
set_option maxHeartbeats 8000000
namespace Go.Proofs.YthjccajoadjicaaGreatDoor
theorem E.eta (e:E):E.mk e.kind e.n e.s e.kids=e:=by cases e;rfl
mutual
theorem l4_:∀x y:E,same x y=true↔x=y
 |.mk k n s kids,.mk k' n' s' kids'=>by
  have:=y0_ kids kids'
  simp only[same,Bool.and_eq_true,beq_iff_eq,this,E.mk.injEq,and_assoc]
theorem y0_:∀x y:List E,same.sameL x y=true↔x=y
 |[],[]=>by simp[same.sameL]
 |[],_::_=>by simp[same.sameL]
 |_::_,[]=>by simp[same.sameL]
 |x::xs,y::ys=>by
  have h1:=l4_ x y
  have h2:=y0_ xs ys
  simp only[same.sameL,Bool.and_eq_true,h1,h2,List.cons.injEq]
end
instance:DecidableEq E:=fun x y=>if h:same x y=true then isTrue ((l4_ x y).1 h)else isFalse fun e=>h ((l4_ x y).2 e)
mutual
theorem afp_:∀e:E,pla e=true→bare e=e
 |.mk k n s kids,h=>by
  simp only[pla,Bool.and_eq_true,bne_iff_ne,ne_eq]at h
  simp only[bare,if_neg h.1,uz_ kids h.2]
theorem uz_:∀l:List E,lw_ l=true→ek_ l=l
 |[],_=>by simp only[ek_]
 |e::r,h=>by
  simp only[lw_,Bool.and_eq_true]at h
  simp only[ek_,afp_ e h.1,uz_ r h.2]
end
mutual
theorem mf_:∀e:E,wf e=true→pla (bare e)=true
 |.mk k n s kids,h=>by
  simp only[wf,Bool.and_eq_true]at h
  simp only[bare]
  by_cases hk:k=4
  ·rw[if_pos hk]
   cases kids with
   |nil=>simp[hk]at h
   |cons a r=>
    simp only[afe_]
    simp only[wfs,Bool.and_eq_true]at h
    exact mf_ a h.2.1
  rw[if_neg hk]
  simp only[pla,Bool.and_eq_true,bne_iff_ne,ne_eq]
  exact⟨hk,ue_ kids h.2⟩
theorem ue_:∀l:List E,wfs l=true→lw_ (ek_ l)=true
 |[],_=>by simp only[ek_,lw_]
 |e::r,h=>by
  simp only[wfs,Bool.and_eq_true]at h
  simp only[ek_,lw_,mf_ e h.1,ue_ r h.2,Bool.and_self]
end
theorem am9_ {e:E} (h:wf e=true):same (bare e) e=pla e:=by
 rw[Bool.eq_iff_iff,l4_]
 constructor
 ·intro he;have:=mf_ e h;rwa [he]at this
 exact afp_ e
theorem aih_ {k n:Int} {s:Str} {m:Nat} (h:shape k n s m=true):k=4→0<m:=by
 rintro rfl;simp[shape]at h;omega
mutual
theorem abs_:∀(e:E) (d:Int),form e d=true→wf e=true
 |.mk k n s kids,d,h=>by
  simp only[form,Bool.and_eq_true]at h
  have h1:=aih_ h.1.2
  simp only[wf,Bool.and_eq_true,Bool.or_eq_true,bne_iff_ne,ne_eq,Bool.not_eq_true',List.isEmpty_eq_false_iff]
  refine⟨?_,zu_ kids _ h.2⟩
  by_cases hk:k=4
  ·right;intro e;have:=h1 hk;simp[e]at this
  exact .inl hk
theorem zu_:∀(l:List E) (d:Int),ck_ l d=true→wfs l=true
 |[],_,_=>by simp only[wfs]
 |e::r,d,h=>by
  simp only[ck_,Bool.and_eq_true]at h
  simp only[wfs,abs_ e d h.1,zu_ r d h.2,Bool.and_self]
end
theorem ao_ {e:E} (h:eok e=true):form e 5=true:=by simp only[eok,Bool.and_eq_true]at h;exact h.1
theorem kh_ {e:E} (h:eok e=true):many e 5≤12:=by simp only[eok,Bool.and_eq_true,decide_eq_true_eq]at h;exact h.2
theorem je_ {e:E} (h:eok e=true):wf e=true:=abs_ e 5 (ao_ h)
/-- the names are not in the words -/
theorem t5_ (b:Bool) (l:Wd):(brk b l).map (·.1)=if b then [[40]]++l.map (·.1)++[[41]]else l.map (·.1):=by
 unfold brk;cases b<;>simp
mutual
theorem av0_:∀(e:E) (must a b:Int),(src e must a).map (·.1)=(src e must b).map (·.1)
 |.mk k n s kids,must,a,b=>by
  simp only[src]
  by_cases k1:k=1
  ·rw[if_pos k1,if_pos k1];rfl
  by_cases k2:k=2
  ·rw[if_neg k1,if_neg k1,if_pos k2,if_pos k2];rfl
  by_cases k3:k=3
  ·rw[if_neg k1,if_neg k1,if_neg k2,if_neg k2,if_pos k3,if_pos k3,t5_,t5_]
   simp only[List.map_append,List.map_cons,ab4_ kids (max 2 (ak_ s)) (a+1) (b+1),ayc_ kids (ak_ s+1) (a+1) (b+1)]
  by_cases k4:k=4
  ·rw[if_neg k1,if_neg k1,if_neg k2,if_neg k2,if_neg k3,if_neg k3,if_pos k4,if_pos k4]
   simp only[List.map_append,ab4_ kids 4 a b]
  rw[if_neg k1,if_neg k1,if_neg k2,if_neg k2,if_neg k3,if_neg k3,if_neg k4,if_neg k4]
theorem ab4_:∀(l:List E) (must a b:Int),(srcA l must a).map (·.1)=(srcA l must b).map (·.1)
 |[],_,_,_=>by simp only[srcA]
 |e::r,must,a,b=>by simp only[srcA];exact av0_ e must a b
theorem ayc_:∀(l:List E) (must a b:Int),(srcB l must a).map (·.1)=(srcB l must b).map (·.1)
 |[],_,_,_=>by simp only[srcB]
 |e::r,must,a,b=>by simp only[srcB];exact ab4_ r must _ _
end
theorem eu_ (e:E) (must a:Int):(src e must a).map (·.1)=wds e must:=av0_ e must a 0
theorem gn_ {e:E} (h:e.kind=1) (must:Int):wds e must=[Go.Lib.decDigits e.n.toNat]:=by
 cases e;simp only[E.kind]at h;subst h;simp[wds,src,E.n]
theorem e1_ {e:E} (h:e.kind=2) (must:Int):wds e must=[e.s]:=by
 cases e;simp only[E.kind]at h;subst h;simp[wds,src,E.s]
theorem jx_ {e:E} (h:e.kind=3) (hl:e.kids.length=2) (must nx:Int):src e must nx=brk (decide (ak_ e.s<must)) (src (e.kids.getD 0 E0) (max 2 (ak_ e.s)) (nx+1)++(e.s,nx)::src (e.kids.getD 1 E0) (ak_ e.s+1) (nx+1+cnt (e.kids.getD 0 E0))):=by
 cases e with
 |mk k n s kids=>
  simp only[E.kind]at h;subst h
  simp only[E.kids]at hl
  match kids,hl with
  |[a,b],_=>simp[src,srcA,srcB,E.s,E.kids];rfl
theorem eb_ {e:E} (h:e.kind=3) (hl:e.kids.length=2) (must:Int):wds e must=if ak_ e.s<must then [[40]]++(wds (e.kids.getD 0 E0) (max 2 (ak_ e.s))++[e.s]++wds (e.kids.getD 1 E0) (ak_ e.s+1))++[[41]]else wds (e.kids.getD 0 E0) (max 2 (ak_ e.s))++[e.s]++wds (e.kids.getD 1 E0) (ak_ e.s+1):=by
 rw[wds,jx_ h hl,t5_]
 simp only[decide_eq_true_eq,List.map_append,List.map_cons,eu_,List.append_assoc,List.cons_append,List.nil_append]
theorem re_ {e:E} (h:e.kind=4) (hl:e.kids.length=1) (must nx:Int):src e must nx=src (e.kids.getD 0 E0) 4 nx++[([97,115], -1),(e.s, -1)]:=by
 cases e with
 |mk k n s kids=>
  simp only[E.kind]at h;subst h
  simp only[E.kids]at hl
  match kids,hl with
  |[a],_=>simp[src,srcA,E.s,E.kids]
theorem i0_ {e:E} (h:e.kind=4) (hl:e.kids.length=1) (must:Int):wds e must=wds (e.kids.getD 0 E0) 4++[[97,115],e.s]:=by
 rw[wds,re_ h hl];simp only[List.map_append,List.map_cons,List.map_nil,eu_]
theorem oj_ {e:E} (h:e.kind=3) (hl:e.kids.length=2):cnt e=1+cnt (e.kids.getD 0 E0)+cnt (e.kids.getD 1 E0):=by
 cases e with
 |mk k n s kids=>
  simp only[E.kind]at h;subst h
  simp only[E.kids]at hl
  match kids,hl with
  |[a,b],_=>simp[cnt,xp_,E.kids];omega
theorem abx_ {e:E} (h:e.kind=4) (hl:e.kids.length=1):cnt e=cnt (e.kids.getD 0 E0):=by
 cases e with
 |mk k n s kids=>
  simp only[E.kind]at h;subst h
  simp only[E.kids]at hl
  match kids,hl with
  |[a],_=>simp[cnt,xp_,E.kids]
/-- the four kinds -/
theorem aj_ {e:E} {d:Int} (h:form e d=true):1≤d∧
    ((e.kind=1∧0≤e.n∧e.n≤1000000∧e.s=[]∧e.kids=[])∨(e.kind=2∧e.n=0∧gi_ e.s=true∧e.kids=[])∨
     (e.kind=3∧e.n=0∧fn_ e.s=true∧e.kids.length=2∧form (e.kids.getD 0 E0) (d - 1)=true∧form (e.kids.getD 1 E0) (d - 1)=true)∨
     (e.kind=4∧e.n=0∧ey_ e.s=true∧e.kids.length=1∧form (e.kids.getD 0 E0) (d - 1)=true)):=by
  cases e with
  |mk k n s kids=>
    simp only[form,Bool.and_eq_true,decide_eq_true_eq]at h
    obtain⟨⟨h1,h2⟩,h3⟩:=h
    refine⟨h1,?_⟩
    simp only[E.kind,E.n,E.s,E.kids]
    have hm:=iv_ h3
    unfold shape at h2
    by_cases k1:k=1
    · subst k1;simp at h2;exact .inl ⟨rfl,h2.1.1.1,h2.1.1.2,h2.1.2,h2.2⟩
    by_cases k2:k=2
    · subst k2;simp at h2;exact .inr (.inl ⟨rfl,h2.1.1,h2.1.2,h2.2⟩)
    by_cases k3:k=3
    · subst k3;simp at h2
      exact .inr (.inr (.inl ⟨rfl,h2.1.1,h2.1.2,h2.2,hm _ (ag_ (by omega)),hm _ (ag_ (by omega))⟩))
    by_cases k4:k=4
    · subst k4;simp at h2
      exact .inr (.inr (.inr ⟨rfl,h2.1.1,h2.1.2,h2.2,hm _ (ag_ (by omega))⟩))
    simp[k1,k2,k3,k4]at h2
theorem kk_ {e:E} (h:e.kids.length=2):e.kids=[e.kids.getD 0 E0,e.kids.getD 1 E0]:=by
 match hk:e.kids,h with
 |[a,b],_=>rfl
theorem xc_ {e:E} (h:e.kids.length=1):e.kids=[e.kids.getD 0 E0]:=by
 match hk:e.kids,h with
 |[a],_=>rfl
theorem oh_ (e:E) {d:Int} (h:1≤d):many e d=1+cg_ e.kids (d - 1):=by
 cases e;simp only[many,E.kids];rw[if_pos (by omega)]
theorem ku_ {e:E} {d:Int} (h:1≤d) (hl:e.kids.length=2):many e d=1+many (e.kids.getD 0 E0) (d - 1)+many (e.kids.getD 1 E0) (d - 1):=by
 rw[oh_ e h,kk_ hl];simp only[cg_,List.getD_cons_zero,List.getD_cons_succ];omega
theorem mj_ {e:E} {d:Int} (h:1≤d) (hl:e.kids.length=1):many e d=1+many (e.kids.getD 0 E0) (d - 1):=by
 rw[oh_ e h,xc_ hl];simp only[cg_,List.getD_cons_zero];omega
theorem ns_ {n:Nat} (h:n≤1000000):(Go.Lib.decDigits n).length≤7:=by
 have key:∀(k n:Nat),n<10 ^ k→0<k→(Go.Lib.decDigits n).length≤k:=by
  intro k
  induction k with
  |zero=>intro n _ h;omega
  |succ k ih=>
   intro n hn _
   by_cases h1:n<10
   ·rw[Go.Lib.decDigits_one h1];simp
   rw[Go.Lib.decDigits,dif_neg h1]
   have h2:n / 10<10 ^ k:=by rw[Nat.pow_succ]at hn;omega
   have h3:0<k:=by
    rcases Nat.eq_zero_or_pos k with rfl|h3
    ·simp at hn;omega
    exact h3
   have:=ih (n / 10) h2 h3
   simp;omega
 exact key 7 n (by omega) (by decide)
theorem wm_ {s:Str} (h:gi_ s=true):1≤s.length∧s.length≤8:=by
 simp only[gi_,e4_,Bool.and_eq_true,decide_eq_true_eq]at h;omega
theorem ads_ {s:Str} (h:fn_ s=true):s.length=1:=by
 simp only[fn_,Bool.or_eq_true,beq_iff_eq]at h;rcases h with((h|h)|h)|h<;>subst h<;>rfl
theorem rq_ {s:Str} (h:ey_ s=true):s.length≤4∧1≤s.length:=by
 simp only[ey_,Bool.or_eq_true,beq_iff_eq]at h;rcases h with h|h<;>subst h<;>decide
theorem by_ {s:Str} (h:fn_ s=true):1≤ak_ s∧ak_ s≤3:=by
 simp only[fn_,Bool.or_eq_true,beq_iff_eq]at h;rcases h with((h|h)|h)|h<;>subst h<;>decide
/-- how many words, how long, how many parts -/
theorem cw_:∀(d:Nat) (e:E) (must:Int),form e d=true→1≤(wds e must).length∧((wds e must).length:Int)≤3 * many e d∧(∀s∈wds e must,1≤s.length∧s.length≤8)∧1≤cnt e∧cnt e≤many e d
 |0,e,must,h=>by have:=(aj_ h).1;omega
 |d+1,e,must,h=>by
  have e1:((d+1:Nat):Int) - 1=(d:Int):=by omega
  have hd:(1:Int)≤((d+1:Nat):Int):=by omega
  rcases (aj_ h).2 with⟨k1,h1,h2,h3,h4⟩|⟨k1,h1,h2,h3⟩|⟨k1,h1,h2,h3,h4,h5⟩|⟨k1,h1,h2,h3,h4⟩
  ·have hm:many e ((d+1:Nat):Int)=1:=by rw[oh_ e hd,h4];simp[cg_]
   have hc:cnt e=1:=by cases e;simp only[E.kind,E.kids]at k1 h4;subst k1 h4;simp[cnt,xp_]
   rw[gn_ k1,hm,hc]
   have:=ns_ (n:=e.n.toNat) (by omega)
   have h0:=List.length_pos_iff.2 (decDigits_ne' e.n.toNat)
   simp;omega
  ·have hm:many e ((d+1:Nat):Int)=1:=by rw[oh_ e hd,h3];simp[cg_]
   have hc:cnt e=1:=by cases e;simp only[E.kind,E.kids]at k1 h3;subst k1 h3;simp[cnt,xp_]
   have:=wm_ h2
   rw[e1_ k1,hm,hc];simp;omega
  ·rw[e1]at h4 h5
   obtain⟨a1,a2,a3,a4,a5⟩:=cw_ d (e.kids.getD 0 E0) (max 2 (ak_ e.s)) h4
   obtain⟨b1,b2,b3,b4,b5⟩:=cw_ d (e.kids.getD 1 E0) (ak_ e.s+1) h5
   have hm:=ku_ hd h3
   rw[e1]at hm
   have hl:=ads_ h2
   rw[eb_ k1 h3,hm,oj_ k1 h3]
   refine⟨by split<;>simp<;>omega,?_,?_,by omega,by omega⟩
   ·split<;>simp only[List.length_append,List.length_cons,List.length_nil]<;>omega
   intro s hs
   have key:s∈wds (e.kids.getD 0 E0) (max 2 (ak_ e.s))++[e.s]++wds (e.kids.getD 1 E0) (ak_ e.s+1)→1≤s.length∧s.length≤8:=fun hs=>by
    simp only[List.mem_append,List.mem_singleton]at hs
    rcases hs with(hs|hs)|hs
    ·exact a3 s hs
    ·rw[hs,hl];omega
    exact b3 s hs
   split at hs
   ·rcases List.mem_append.1 hs with hs|hs
    ·rcases List.mem_append.1 hs with hs|hs
     ·simp at hs;subst hs;simp
     exact key hs
    simp at hs;subst hs;simp
   exact key hs
  rw[e1]at h4
  obtain⟨a1,a2,a3,a4,a5⟩:=cw_ d (e.kids.getD 0 E0) 4 h4
  have hm:=mj_ hd h3
  rw[e1]at hm
  have hl:=rq_ h2
  rw[i0_ k1 h3,hm,abx_ k1 h3]
  refine⟨by simp,by simp only[List.length_append,List.length_cons,List.length_nil];omega,?_,by omega,by omega⟩
  intro s hs
  simp only[List.mem_append,List.mem_cons,List.not_mem_nil,or_false]at hs
  rcases hs with hs|hs|hs
  ·exact a3 s hs
  ·subst hs;simp
  rw[hs];omega
where
 decDigits_ne' (n:Nat):Go.Lib.decDigits n≠[]:=by
  by_cases h:n<10
  ·rw[Go.Lib.decDigits_one h];simp
  rw[Go.Lib.decDigits,dif_neg h];simp
theorem bk_ {e:E} (h:eok e=true) (must:Int):1≤(wds e must).length∧(wds e must).length≤36∧∀s∈wds e must,1≤s.length∧s.length≤8:=by
 have:=cw_ 5 e must (ao_ h)
 have h2:=kh_ h
 have h3:many e ((5:Nat):Int)=many e 5:=rfl
 rw[h3]at this
 exact⟨this.1,by omega,this.2.2.1⟩
end Go.Proofs.YthjccajoadjicaaGreatDoor
end
section
namespace Go.Proofs.YthjccajoadjicaaGreatDoor
structure Bl where
 kind:Int
 name:Str
 expr:E
 thn:E
structure Sl where
 kind:Int
 name:Str
 type:Str
 expr:E
 thn:E
def wEq:Str:=[61]
def bj_:Str:=[112,114,105,110,116]
def wIf:Str:=[105,102]
def bz_:Str:=[58]
def jl_:Str:=[108,101,116]
def bp_:Str:=[115,97,121]
def c8_:Str:=[119,104,101,110]
def g1_ (e:E):Bool:=same e E0
def pe (e:E):Bool:=eok e&&pla e
/-- the words of a line without types -/
def bw (b:Bl):List Str:=
 if b.kind=1 then b.name::wEq::wds b.expr 1
 else if b.kind=2 then bj_::wds b.expr 1
 else if b.kind=3 then wIf::wds b.expr 1++bz_::bj_::wds b.thn 1
 else []
/-- the words of a line -/
def sw' (s:Sl):List Str:=
 if s.kind=1 then jl_::s.name::bz_::s.type::wEq::wds s.expr 1
 else if s.kind=2 then bp_::wds s.expr 1
 else if s.kind=3 then c8_::wds s.expr 1++bp_::wds s.thn 1
 else []
def cx_ (b:Bl):Bool:=
 if b.kind=0 then b.name==[]&&g1_ b.expr&&g1_ b.thn
 else if b.kind=1 then gi_ b.name&&pe b.expr&&g1_ b.thn
 else if b.kind=2 then b.name==[]&&pe b.expr&&g1_ b.thn
 else if b.kind=3 then b.name==[]&&pe b.expr&&pe b.thn
 else false
def bok (b:Bl):Bool:=cx_ b&&decide ((ap_ (bw b)).length≤120)
def b9_ (s:Sl):Bool:=
 if s.kind=0 then s.name==[]&&s.type==[]&&g1_ s.expr&&g1_ s.thn
 else if s.kind=1 then gi_ s.name&&ey_ s.type&&eok s.expr&&g1_ s.thn
 else if s.kind=2 then s.name==[]&&s.type==[]&&eok s.expr&&g1_ s.thn
 else if s.kind=3 then s.name==[]&&s.type==[]&&eok s.expr&&eok s.thn
 else false
def sok (s:Sl):Bool:=b9_ s&&decide ((ap_ (sw' s)).length≤116)
def bof (s:Sl):Bl:=⟨s.kind,s.name,if s.kind=0 then E0 else bare s.expr,if s.kind=3 then bare s.thn else E0⟩
def B0:Bl:=⟨0,[],E0,E0⟩
def S0:Sl:=⟨0,[],[],E0,E0⟩
theorem Bl.eta (b:Bl):Bl.mk b.kind b.name b.expr b.thn=b:=rfl
theorem cy_ (e:E):g1_ e=true↔e=E0:=l4_ e E0
theorem u7_:g1_ E0=true:=(cy_ E0).2 rfl
theorem ca_ {e:E} (h:pe e=true):eok e=true:=by simp only[pe,Bool.and_eq_true]at h;exact h.1
theorem aqs_ (e:E):(eok e&&same (bare e) e)=pe e:=by
 unfold pe
 cases h:eok e with
 |false=>rfl
 |true=>rw[am9_ (je_ h)]
/-- lengths of texts -/
theorem ait_ (s x:Str) (l:List Str):[(32:UInt8)].intercalate (s::x::l)=s++32::[(32:UInt8)].intercalate (x::l):=by
 simp[List.intercalate]
theorem ef_ (s x:Str) (l:List Str):ap_ (s::x::l)=s++32::ap_ (x::l):=ait_ s x l
theorem e6_ (s:Str):ap_ [s]=s:=by simp[ap_,List.intercalate]
theorem hw_:ap_ []=[]:=rfl
theorem ht_:∀l:List Str,l≠[]→(ap_ l).length+1=(l.map List.length).sum+l.length
 |[],h=>absurd rfl h
 |[s],_=>by rw[e6_];simp
 |s::x::l,_=>by
  have:=ht_ (x::l) (by simp)
  rw[ef_]
  simp only[List.length_append,List.length_cons,List.map_cons,List.sum_cons]at this ⊢
  omega
theorem ah0_ {l:List Str} {k:Nat} (h:∀s∈l,s.length≤k):(l.map List.length).sum≤l.length * k:=by
 induction l with
 |nil=>simp
 |cons a r ih=>
  have h1:=h a (by simp)
  have h2:=ih fun s hs=>h s (by simp[hs])
  simp only[List.map_cons,List.sum_cons,List.length_cons,Nat.add_mul];omega
theorem uk_ {l:List Str} {k:Nat} (h:∀s∈l,s.length≤k):(ap_ l).length≤l.length * (k+1):=by
 by_cases hl:l=[]
 ·subst hl;simp[hw_]
 have h1:=ht_ l hl
 have h2:=ah0_ h
 rw[Nat.mul_add];omega
theorem nu_ {b:Bl} (h:cx_ b=true):(bw b).length≤76∧∀s∈bw b,1≤s.length∧s.length≤8:=by
 unfold cx_ at h
 unfold bw
 by_cases k0:b.kind=0
 ·simp[k0]
 by_cases k1:b.kind=1
 ·simp[k1]at h
  have h1:=bk_ (ca_ h.1.2) 1
  have h2:=wm_ h.1.1
  simp only[k1,if_true]
  refine⟨by simp;omega,fun s hs=>?_⟩
  rcases List.mem_cons.1 hs with rfl|hs
  ·exact h2
  rcases List.mem_cons.1 hs with rfl|hs
  ·decide
  exact h1.2.2 s hs
 by_cases k2:b.kind=2
 ·simp[k2]at h
  have h1:=bk_ (ca_ h.1.2) 1
  simp only[k2,if_true]
  refine⟨by simp;omega,fun s hs=>?_⟩
  simp only[show ¬(2:Int)=1 by omega,if_false]at hs
  rcases List.mem_cons.1 hs with rfl|hs
  ·decide
  exact h1.2.2 s hs
 by_cases k3:b.kind=3
 ·simp[k3]at h
  have h1:=bk_ (ca_ h.1.2) 1
  have h2:=bk_ (ca_ h.2) 1
  simp only[k3,if_true]
  refine⟨by simp;omega,fun s hs=>?_⟩
  simp only[show ¬(3:Int)=1 by omega,show ¬(3:Int)=2 by omega,if_false]at hs
  rcases List.mem_append.1 hs with hs|hs
  ·rcases List.mem_cons.1 hs with rfl|hs
   ·decide
   exact h1.2.2 s hs
  rcases List.mem_cons.1 hs with rfl|hs
  ·decide
  rcases List.mem_cons.1 hs with rfl|hs
  ·decide
  exact h2.2.2 s hs
 simp[k0,k1,k2,k3]at h
theorem o9_ {b:Sl} (h:b9_ b=true):(sw' b).length≤76∧∀s∈sw' b,1≤s.length∧s.length≤8:=by
 unfold b9_ at h
 unfold sw'
 by_cases k0:b.kind=0
 ·simp[k0]
 by_cases k1:b.kind=1
 ·simp[k1]at h
  have h1:=bk_ h.1.2 1
  have h2:=wm_ h.1.1.1
  have h3:=rq_ h.1.1.2
  simp only[k1,if_true]
  refine⟨by simp;omega,fun s hs=>?_⟩
  rcases List.mem_cons.1 hs with rfl|hs
  ·decide
  rcases List.mem_cons.1 hs with rfl|hs
  ·exact h2
  rcases List.mem_cons.1 hs with rfl|hs
  ·decide
  rcases List.mem_cons.1 hs with rfl|hs
  ·omega
  rcases List.mem_cons.1 hs with rfl|hs
  ·decide
  exact h1.2.2 s hs
 by_cases k2:b.kind=2
 ·simp[k2]at h
  have h1:=bk_ h.1.2 1
  simp only[k2,if_true]
  refine⟨by simp;omega,fun s hs=>?_⟩
  simp only[show ¬(2:Int)=1 by omega,if_false]at hs
  rcases List.mem_cons.1 hs with rfl|hs
  ·decide
  exact h1.2.2 s hs
 by_cases k3:b.kind=3
 ·simp[k3]at h
  have h1:=bk_ h.1.2 1
  have h2:=bk_ h.2 1
  simp only[k3,if_true]
  refine⟨by simp;omega,fun s hs=>?_⟩
  simp only[show ¬(3:Int)=1 by omega,show ¬(3:Int)=2 by omega,if_false]at hs
  rcases List.mem_append.1 hs with hs|hs
  ·rcases List.mem_cons.1 hs with rfl|hs
   ·decide
   exact h1.2.2 s hs
  rcases List.mem_cons.1 hs with rfl|hs
  ·decide
  exact h2.2.2 s hs
 simp[k0,k1,k2,k3]at h
theorem fa_ {e:E} {d:Int} (h:form e d=true):wds e 0=wds e 1:=by
 rcases (aj_ h).2 with⟨k1,_⟩|⟨k1,_⟩|⟨k1,h1,h2,h3,_⟩|⟨k1,h1,h2,h3,_⟩
 ·rw[gn_ k1,gn_ k1]
 ·rw[e1_ k1,e1_ k1]
 ·have:=by_ h2
  rw[eb_ k1 h3,eb_ k1 h3,if_neg (by omega),if_neg (by omega)]
 rw[i0_ k1 h3,i0_ k1 h3]
end Go.Proofs.YthjccajoadjicaaGreatDoor
end
section
namespace Go.Proofs.YthjccajoadjicaaGreatDoor
theorem hu_ (e:E) (hs:sm e=true):ACall En 101 [.ag (eC e)] [] [.b (g1_ e)] []:=by
 refine aa_ [] Tryz.func101 Tryz.ntmps101 fun C=>?_
 refine .seq (.rg [] ?_)
 refine .seq (.rg [ab_ (afw_ e E0 hs rfl)] ?_ (h:=by simp only[go_sem,seval,E0,E.kind,E.n,E.s,E.kids,eR];rfl))
 refine .ret ⟨.inr rfl,Out.pP Tryz.results101 ?_⟩;rfl
theorem fb_ (e:E) (hs:sm e=true):ACall En 197 [.ag (eC e)] [] [.b (g1_ e)] []:=by
 refine aa_ [] Tryz.func197 Tryz.ntmps197 fun C=>?_
 refine .seq (.rg [] ?_)
 refine .seq (.rg [ab_ (sv_ e E0 hs rfl)] ?_ (h:=by simp only[go_sem,seval,E0,E.kind,E.n,E.s,E.kids,eR];rfl))
 refine .ret ⟨.inr rfl,Out.pP Tryz.results197 ?_⟩;rfl
theorem zo_ {l:List E} {k:Nat} (h:k<l.length):lw_ (l.drop k)=(pla (l.getD k E0)&&lw_ (l.drop (k+1))):=by
 rw[List.drop_eq_getElem_cons h,in_ h];simp only[lw_]
theorem aux_ {l:List E} {k:Nat} (h:l.length≤k):lw_ (l.drop k)=true:=by
 rw[List.drop_of_length_le h];simp only[lw_]
theorem ape_ (e:E):sm e=true→ACall En 289 [.ag (eC e)] [] [.b (pla e)] []:=by
 induction e using E.ind' with
 |h e ih=>
 intro hs
 obtain⟨a1,a2,a3⟩:=fg_ hs
 refine aa_ [] Tryz.func289 Tryz.ntmps289 fun C=>?_
 refine .seq (.rg [] ?_)
 refine .seq (.seq (.rg [] ?_))
 refine .cB (fun h6=>?_) fun h6=>?_
 ·refine .seq (.rg [] ?_)
  refine .ret ⟨.inr rfl,Out.pP Tryz.results289 ?_⟩;rw[vd_];simp_all
 refine .skip (.seq (.seq (.rg [] ?_)))
 refine .block (.loopK (fun k:Nat=>⟨[.no,.pt 11 4 0 0,.b false,.i .i64 k,.no,.no,.no,.no,.no,.no,.no,.no,.no,.no,.no,.no,.no,.no,.no,.no,.no],ae_ [(11,⟨56,4,[eC e]⟩)],us [11]⟩) (fun k:Nat=>k≤e.kids.length∧lw_ e.kids=lw_ (e.kids.drop k)) (fun k:Nat=>e.kids.length - k) (0) ?_ ?_ (fun k hI=>?_))
 ·simp
 ·refine Can.wh ?_;trivial
 refine .seq (.seq (.rg [] ?_))
 refine .cB (fun h11=>?_) fun h11=>?_
 ·refine .skip (.seq (.block (.seq (.rgo [ab_ (ih (e.kids.getD k E0) (ag_ (by simpa using h11)) (cj_ a3 _ (ag_ (by simpa using h11))))] ?_ ?_ (h:=by simp only[go_sem,seval,b8_ (show k<e.kids.length by simpa using h11)];rfl)))))
  ·simp at h11;simp;omega
  refine .cB (fun h20=>?_) fun h20=>?_
  ·refine .seq (.rg [] ?_)
   refine .ret ⟨.inr rfl,Out.pP Tryz.results289 ?_⟩;simp at h11;rw[vd_,hI.2,zo_ h11];simp_all
  refine .skip (.rg [] ?_)
  refine⟨k+1,?_,?_,?_⟩
  ·simp at h11;refine⟨by omega,?_⟩;rw[hI.2,zo_ h11];simp_all
  ·simp at h11;omega
  refine Can.wh ?_;rw[ac_ (by simp at h11;omega) (by simp at h11;omega)];simp
 refine .exit (.seq (.rg [] ?_))
 refine .ret ⟨.inr rfl,Out.pP Tryz.results289 ?_⟩;simp at h11;rw[vd_,hI.2,aux_ h11];simp_all
end Go.Proofs.YthjccajoadjicaaGreatDoor
end
section
namespace Go.Proofs.YthjccajoadjicaaGreatDoor
theorem arp_:ACall En 299 [.sl false []] [] [.ow 0 4 0 0] [⟨56,4,[]⟩]:=by
 refine aa_ [17] Tryz.func299 Tryz.ntmps299 fun C=>?_
 refine .seq (.rg [] ?_)
 refine .seq (.seq (.rgS [4] [nilO En] ?_))
 refine .condQ (by simp only[go_sem,seval]<;>rfl) (by simp only[go_sem,seval]) ?_ ?_
 ·refine .seq (.rg [] ?_)
  refine .can (Can.ownSlot 2 17 56 4 (by simp only[go_sem,seval]<;>rfl) (by simp only[go_sem,seval]) (by simp only[go_sem,seval]<;>rfl)) ?_
  refine .ret ⟨.inr rfl,Out.mP Tryz.results299 ?_ ?_⟩
  ·trivial
  trivial
 refine .skip (.seq (.rg [] ?_))
 refine .ret ⟨.inr rfl,Out.mP Tryz.results299 ?_ ?_⟩
 ·trivial
 trivial
theorem asp_ (e:E) (r:List E) (hl:r.length<1099511627776):ACall En 299 [.sl false (eR (e::r))] [] [.ow 0 4 0 (r.length+1)] [⟨56,4,eR (e::r)⟩]:=by
 refine aa_ [17] Tryz.func299 Tryz.ntmps299 fun C=>?_
 refine .seq (.rg [] ?_ (h:=by simp only[go_sem,seval,eR];rfl))
 refine .seq (.seq (.rgS [4] [nilO En] ?_ (h:=by simp only[go_sem,seval,eR];rfl)))
 refine .cB (fun h4=>?_) fun h4=>?_
 ·exact absurd h4 (by simp)
 refine .skip (.seq (.rgo [] ?_ ?_ (h:=by simp only[go_sem,seval,eR];rfl)))
 ·have:=r1_ r;simp[rk_,dz_];omega
 refine .ret ⟨.inr rfl,Out.mP Tryz.results299 ?_ ?_⟩
 ·trivial
 simp[eR,b7_,hr_,dz_]
theorem azb_ (l:List E) (hl:l.length<1099511627776):ACall En 299 [.sl false (eR l)] [] [.ow 0 4 0 l.length] [⟨56,4,eR l⟩]:=by
 cases l with
 |nil=>simp only[eR];exact arp_
 |cons e r=>exact asp_ e r (by simp at hl;omega)
theorem a18_ (l:List E) (hl:l.length<1099511627776):ACall En 298 [.ow 0 4 0 l.length] [⟨56,4,eR l⟩] [.ow 0 4 0 l.length] [⟨56,4,eR l⟩]:=by
 refine aa_ [0] Tryz.func298 Tryz.ntmps298 fun C=>?_
 refine .seq (.rg [] ?_)
 refine .seq (.rg [] ?_)
 refine .ret ⟨.inr rfl,Out.mP Tryz.results298 ?_ ?_⟩
 ·simp
 trivial
theorem ayt_ (l:List E) (hl:l.length<1099511627776):ACall En 262 [.sl false (eR l)] [] [.ow 0 4 0 l.length] [⟨56,4,eR l⟩]:=by
 refine aa_ [14] Tryz.func262 Tryz.ntmps262 fun C=>?_
 refine .seq (.rg [] ?_)
 refine .seq (.rg [at_ [] [14] (azb_ l hl),at_ [14] [] (a18_ l hl)] ?_)
 refine .ret ⟨.inr rfl,Out.mP Tryz.results262 ?_ ?_⟩
 ·trivial
 trivial
end Go.Proofs.YthjccajoadjicaaGreatDoor
end
section
namespace Go.Proofs.YthjccajoadjicaaGreatDoor
/-- the first k without types -/
def q5_ (l:List E) (k:Nat):List (List V):=eR (ek_ (l.take k)++l.drop k)
theorem afb_ (l:List E) (k:Nat) (h:k≤l.length):(q5_ l k).length=l.length:=by simp[q5_,r1_,iw_];omega
theorem zq_ (l:List E) (k:Nat):bg_ (q5_ l k)=true:=hr_ _
theorem aor_ (l:List E):q5_ l 0=eR l:=by simp[q5_,ek_]
theorem as2_ (l:List E) (k:Nat) (h:l.length≤k):q5_ l k=eR (ek_ l):=by simp[q5_,List.take_of_length_le h,List.drop_of_length_le h]
theorem as5_ {l:List E} {k:Nat} (h:k<l.length) {r:List V} (hr:r=eC (bare (l.getD k E0))):(q5_ l k).set k r=q5_ l (k+1):=by
 subst hr
 unfold q5_
 rw[ajn_ h,ahs_,ahs_,ahs_,List.set_append_right _ _ (by rw[r1_,iw_,List.length_take];omega),r1_,iw_,List.length_take,Nat.min_eq_left (Nat.le_of_lt h),Nat.sub_self,List.drop_eq_getElem_cons h]
 simp only[eR,List.set_cons_zero,List.append_assoc,List.cons_append,List.nil_append]
theorem av9_:∀ {l:List E} (r:List V),r∈eR l→r.length=4:=fun {l} r hr=>by
 rw[rk_]at hr;obtain⟨e,_,rfl⟩:=List.mem_map.1 hr;rw[dz_];rfl
theorem aob_ (l:List E) (k j:Nat):((q5_ l k).getD j []).drop 4=[]:=by
 rw[List.getD_eq_getElem?_getD]
 cases h:(q5_ l k)[j]? with
 |none=>rfl
 |some r=>have:=av9_ r (List.mem_of_getElem? h);simp only[Option.getD_some];exact List.drop_of_length_le (by omega)
mutual
theorem to_:∀e:E,sm e=true→sm (bare e)=true
 |.mk k n s kids,h=>by
  simp only[sm,Bool.and_eq_true]at h
  simp only[bare]
  by_cases hk:k=4
  ·rw[if_pos hk]
   cases kids with
   |nil=>simp only[afe_,sm,Bool.and_eq_true];exact⟨⟨h.1.1,by simp⟩,rfl⟩
   |cons a r=>simp only[afe_];simp only[sms,Bool.and_eq_true]at h;exact to_ a h.2.1
  rw[if_neg hk]
  simp only[sm,Bool.and_eq_true]
  exact⟨⟨h.1.1,by rw[iw_];exact h.1.2⟩,zf_ kids h.2⟩
theorem zf_:∀l:List E,sms l=true→sms (ek_ l)=true
 |[],_=>by simp only[ek_,sms]
 |e::r,h=>by
  simp only[sms,Bool.and_eq_true]at h
  simp only[ek_,sms,to_ e h.1,zf_ r h.2,Bool.and_self]
end
attribute [local go_sem] zq_ aob_ in
theorem tf_ (e:E):wf e=true→sm e=true→ACall En 203 [.ag (eC e)] [] [.ag (eC (bare e))] []:=by
 induction e using E.ind' with
 |h e ih=>
 intro hw hs
 obtain⟨a1,a2,a3⟩:=fg_ hs
 obtain⟨w1,w2⟩:=awb_ hw
 have a4:=alw_ hs
 refine aa_ [] Tryz.func203 Tryz.ntmps203 fun C=>?_
 refine .seq (.rg [] ?_)
 refine .seq (.seq (.rg [] ?_))
 refine .cB (fun h8=>?_) fun h8=>?_
 ·refine .seq (.rgo [ab_ (ih (e.kids.getD 0 E0) (ag_ (w1 (by simpa using h8))) (acv_ w2 _ (ag_ (w1 (by simpa using h8)))) (cj_ a3 _ (ag_ (w1 (by simpa using h8)))))] ?_ ?_ (h:=by simp only[go_sem,seval,b8_ (w1 (by simpa using h8))];rfl))
  ·have:=w1 (by simpa using h8);simp;omega
  refine .ret ⟨.inr rfl,Out.pP Tryz.results203 ?_⟩;rw[z2_ (e:=e) (by simpa using h8) (w1 (by simpa using h8))]
 refine .skip (.seq (.rgD [at_ [] [32] (ayt_ e.kids a4)] ?_))
 refine .seq (.seq (.rg [] ?_))
 refine .block (.loopK (fun k:Nat=>⟨[.no,.pt 11 4 0 0,.pt 12 4 0 0,.pt 13 4 0 0,.no,.no,.no,.no,.no,.no,.no,.no,.no,.no,.no,.no,.no,.no,.no,.no,.no,.no,.no,.no,.no,.sl false (eR e.kids),.i .i64 e.kids.length,.i .i64 k,.no,.no,.no,.no,.no,.no,.no,.no,.no,.no,.no,.no],ae_ [(11,⟨56,4,[eC e]⟩),(12,⟨56,4,[[.i .i64 0,.i .i64 0,.s [],.sl true []]]⟩),(13,⟨56,4,[[.i .i64 e.kind,.i .i64 e.n,.s e.s,.ow 32 4 0 e.kids.length]]⟩),(32,⟨56,4,q5_ e.kids k⟩)],us [11,12,13,32]⟩) (fun k:Nat=>k≤e.kids.length) (fun k:Nat=>e.kids.length - k) (0) ?_ ?_ (fun k hI=>?_))
 ·simp
 ·refine Can.wk ?_ ?_
  ·trivial
  simp[aor_,m0_,hr_]
 refine .seq (.rg [] ?_)
 refine .seq (.cB (fun h28=>?_) fun h28=>?_)
 ·refine .skip (.seq (.block (.seq (.rgo [] ?_ ?_ (h:=by simp only[go_sem,seval,b8_ (show k<e.kids.length by simpa using h28)];rfl)))))
  ·simp at h28;simp;omega
  refine .rgDo [ab_ (ih (e.kids.getD k E0) (ag_ (by simpa using h28)) (acv_ w2 _ (ag_ (by simpa using h28))) (cj_ a3 _ (ag_ (by simpa using h28))))] ?_ ?_ (h:=by simp only[go_sem,seval,as5_ (show k<e.kids.length by simpa using h28) (dz_ _).symm,afb_ e.kids k hI,zq_];rfl)
  ·simp at h28;simp[afb_ e.kids k hI];omega
  refine .rg [] ?_
  refine⟨k+1,?_,?_,?_⟩
  ·simp at h28;omega
  ·simp at h28;omega
  refine Can.wh ?_;rw[ac_ (by simp at h28;omega) (by simp at h28;omega)];simp
 refine .exit (.seq (.rg [] ?_))
 refine .fX 32 ?_
 refine .ret ⟨.inr rfl,Out.pP Tryz.results203 ?_⟩;simp at h28;rw[r6_ (e:=e) (by simpa using h8),as2_ _ _ h28];simp[dz_,iw_,r1_,E.kind,E.n,E.s,E.kids,List.take_of_length_le]
theorem t0_ (e:E) (hs:sm e=true):ACall En 272 [.ag (eC e)] [] [.b (pe e)] []:=by
 refine aa_ [] Tryz.func272 Tryz.ntmps272 fun C=>?_
 refine .seq (.rg [] ?_)
 refine .seq (.rgDo [ab_ (hk_ e hs),a0_ (eok e=true) (fun h=>tf_ e (je_ h) hs),ab_ (sv_ (bare e) e (to_ e hs) hs)] ?_ ?_)
 ·simp
 refine .ret ⟨.inr rfl,Out.pP Tryz.results272 ?_⟩;rw[←aqs_]
end Go.Proofs.YthjccajoadjicaaGreatDoor
end
section
namespace Go.Proofs
open Go.Shelf
def Tryz.lays156_ren:Go.Shelf.Ren:=⟨fun|156=>81|165=>148|166=>17|169=>19|240=>38|241=>215|276=>79|277=>269|n=>n,fun|31=>29|9=>9|3=>3|4=>4|0=>0|20=>20|72=>39|76=>45|70=>37|37=>24|75=>44|127=>81|164=>108|5=>5|80=>48|n=>n,fun|n=>n⟩
theorem Tryz.lays156:Go.Proofs.Lays.n156 Tryz.prog Tryz.lays156_ren:={
 mixed:=by kernel_rfl
 f156:=Tryz.func81.trans (congrArg some (by kernel_rfl))
 f165:=Tryz.func148.trans (congrArg some (by kernel_rfl))
 f166:=Tryz.func17.trans (congrArg some (by kernel_rfl))
 f169:=Tryz.func19.trans (congrArg some (by kernel_rfl))
 f240:=Tryz.func38.trans (congrArg some (by kernel_rfl))
 f241:=Tryz.func215.trans (congrArg some (by kernel_rfl))
 f276:=Tryz.func79.trans (congrArg some (by kernel_rfl))
 f277:=Tryz.func269.trans (congrArg some (by kernel_rfl))
 t0:=Tryz.underlying0
 a0:=Tryz.isAgg0
 z0:=Tryz.sizeOf0
 v0:=Tryz.zeroValue0
 t3:=Tryz.underlying3
 a3:=Tryz.isAgg3
 z3:=Tryz.sizeOf3
 v3:=Tryz.zeroValue3
 t4:=Tryz.underlying4
 a4:=Tryz.isAgg4
 z4:=Tryz.sizeOf4
 v4:=Tryz.zeroValue4
 t9:=Tryz.underlying9
 a9:=Tryz.isAgg9
 z9:=Tryz.sizeOf9
 v9:=Tryz.zeroValue9
 t20:=Tryz.underlying20
 a20:=Tryz.isAgg20
 z20:=Tryz.sizeOf20
 v20:=Tryz.zeroValue20
 t31:=Tryz.underlying29
 a31:=Tryz.isAgg29
 z31:=Tryz.sizeOf29
 v31:=Tryz.zeroValue29
 t37:=Tryz.underlying24
 a37:=Tryz.isAgg24
 z37:=Tryz.sizeOf24
 v37:=Tryz.zeroValue24
 t70:=Tryz.underlying37
 a70:=Tryz.isAgg37
 z70:=Tryz.sizeOf37
 v70:=Tryz.zeroValue37
 t72:=Tryz.underlying39
 a72:=Tryz.isAgg39
 z72:=Tryz.sizeOf39
 v72:=Tryz.zeroValue39
 t75:=Tryz.underlying44
 a75:=Tryz.isAgg44
 z75:=Tryz.sizeOf44
 v75:=Tryz.zeroValue44
 t76:=Tryz.underlying45
 a76:=Tryz.isAgg45
 z76:=Tryz.sizeOf45
 v76:=Tryz.zeroValue45
 t127:=Tryz.underlying81
 a127:=Tryz.isAgg81
 z127:=Tryz.sizeOf81
 v127:=Tryz.zeroValue81
 t164:=Tryz.underlying108
 a164:=Tryz.isAgg108
 z164:=Tryz.sizeOf108
 v164:=Tryz.zeroValue108 }
theorem Tryz.Builder_Extra_156:Builder.Extra Tryz.prog Tryz.lays156_ren:={
 sizeBuilder:=by kernel_rfl
 liesBuilder:=by kernel_rfl
 t5:=Tryz.underlying5
 a5:=Tryz.isAgg5
 z5:=Tryz.sizeOf5
 v5:=Tryz.zeroValue5
 infoByte:=by kernel_rfl
 cellsByte:=by kernel_rfl
 sizeByte:=by kernel_rfl
 neB5:=by decide }
open Go.RowKit in
/-- No element: the empty string; the world is as it was. (Whatever the slice's address and capacity: a nil slice too.) (LAID: no walk: one application.) -/
theorem Tryz.strings_Join_none (a:Option Addr) (c:Nat) (sep:ByteArray) (w:World) :
  Calls Tryz.prog 81 #[.slice a 0 c,.string sep] w fun e w'=>e = .returned (.string ⟨#[]⟩)∧w'=w:=Any.strings_Join_none Tryz.lays156 Tryz.Builder_Extra_156 a c sep w
open Go.RowKit in
/-- strings.Join: "Join concatenates the elements of its first argument to create a single string. The separator string sep is placed between elements in the resulting string.": HOWEVER MANY ELEMENTS. Below the heap's end the world is as it was. (LAID: no walk: one application.) -/
theorem Tryz.strings_Join (bk o c:Nat) (xs:List ByteArray) (sep:ByteArray) (w:World) (hcells:∀(j:Nat) x,xs[j]? = some x→w.cell? ⟨bk,o+j,none⟩=some (.string x)) (hbk:bk<w.heap.size) (hN:xs.length≤140737488355328) (hcap:xs.length≤c) (hlen:(Lib.join (xs.map (·.data.toList)) sep.data.toList).length≤140737488355328) :
  Calls Tryz.prog 81 #[.slice (some ⟨bk,o,none⟩) xs.length c,.string sep] w fun e w'=>e = .returned (.string ⟨(Lib.join (xs.map (·.data.toList)) sep.data.toList).toArray⟩)∧Below w.heap.size w w':=Any.strings_Join Tryz.lays156 Tryz.Builder_Extra_156 bk o c xs sep w hcells hbk hN hcap hlen
def Tryz.laysM171_ren:Go.Shelf.Ren:=⟨fun|171=>95|243=>164|246=>235|283=>279|284=>280|285=>281|286=>282|129=>305|317=>304|318=>306|319=>307|320=>308|337=>314|338=>315|n=>n,fun|3=>3|9=>9|2=>2|4=>4|171=>263|0=>0|53=>257|37=>24|5=>5|173=>266|212=>279|51=>246|20=>20|213=>280|46=>204|232=>285|233=>286|n=>n,fun|17=>6|18=>7|19=>8|n=>n⟩
theorem Tryz.laysM171:Go.Proofs.LaysM.n171 Tryz.prog Tryz.laysM171_ren:={
 mixed:=by kernel_rfl
 f129:=Tryz.func305.trans (congrArg some (by kernel_rfl))
 f171:=Tryz.func95.trans (congrArg some (by kernel_rfl))
 f243:=Tryz.func164.trans (congrArg some (by kernel_rfl))
 f246:=Tryz.func235.trans (congrArg some (by kernel_rfl))
 f283:=Tryz.func279.trans (congrArg some (by kernel_rfl))
 f284:=Tryz.func280.trans (congrArg some (by kernel_rfl))
 f285:=Tryz.func281.trans (congrArg some (by kernel_rfl))
 f286:=Tryz.func282.trans (congrArg some (by kernel_rfl))
 f317:=Tryz.func304.trans (congrArg some (by kernel_rfl))
 f318:=Tryz.func306.trans (congrArg some (by kernel_rfl))
 f319:=Tryz.func307.trans (congrArg some (by kernel_rfl))
 f320:=Tryz.func308.trans (congrArg some (by kernel_rfl))
 f337:=Tryz.func314.trans (congrArg some (by kernel_rfl))
 f338:=Tryz.func315.trans (congrArg some (by kernel_rfl))
 t0:=Tryz.underlying0
 a0:=Tryz.isAgg0
 z0:=Tryz.sizeOf0
 v0:=Tryz.zeroValue0
 t2:=Tryz.underlying2
 a2:=Tryz.isAgg2
 z2:=Tryz.sizeOf2
 v2:=Tryz.zeroValue2
 t3:=Tryz.underlying3
 a3:=Tryz.isAgg3
 z3:=Tryz.sizeOf3
 v3:=Tryz.zeroValue3
 t4:=Tryz.underlying4
 a4:=Tryz.isAgg4
 z4:=Tryz.sizeOf4
 v4:=Tryz.zeroValue4
 t5:=Tryz.underlying5
 a5:=Tryz.isAgg5
 z5:=Tryz.sizeOf5
 v5:=Tryz.zeroValue5
 t9:=Tryz.underlying9
 a9:=Tryz.isAgg9
 z9:=Tryz.sizeOf9
 v9:=Tryz.zeroValue9
 t20:=Tryz.underlying20
 a20:=Tryz.isAgg20
 z20:=Tryz.sizeOf20
 v20:=Tryz.zeroValue20
 t37:=Tryz.underlying24
 a37:=Tryz.isAgg24
 z37:=Tryz.sizeOf24
 v37:=Tryz.zeroValue24
 t46:=Tryz.underlying204
 a46:=Tryz.isAgg204
 z46:=Tryz.sizeOf204
 v46:=Tryz.zeroValue204
 t51:=Tryz.underlying246
 a51:=Tryz.isAgg246
 z51:=Tryz.sizeOf246
 v51:=Tryz.zeroValue246
 t53:=Tryz.underlying257
 a53:=Tryz.isAgg257
 z53:=Tryz.sizeOf257
 v53:=Tryz.zeroValue257
 t171:=Tryz.underlying263
 a171:=Tryz.isAgg263
 z171:=Tryz.sizeOf263
 v171:=Tryz.zeroValue263
 t173:=Tryz.underlying266
 a173:=Tryz.isAgg266
 z173:=Tryz.sizeOf266
 v173:=Tryz.zeroValue266
 t212:=Tryz.underlying279
 a212:=Tryz.isAgg279
 z212:=Tryz.sizeOf279
 v212:=Tryz.zeroValue279
 t213:=Tryz.underlying280
 a213:=Tryz.isAgg280
 z213:=Tryz.sizeOf280
 t232:=Tryz.underlying285
 a232:=Tryz.isAgg285
 z232:=Tryz.sizeOf285
 v232:=Tryz.zeroValue285
 t233:=Tryz.underlying286
 a233:=Tryz.isAgg286
 z233:=Tryz.sizeOf286
 v233:=Tryz.zeroValue286
 g17:=by kernel_rfl
 g18:=by kernel_rfl
 g19:=by kernel_rfl
 i0:=by kernel_rfl
 i2:=by kernel_rfl
 i3:=by kernel_rfl
 i4:=by kernel_rfl
 i5:=by kernel_rfl
 i9:=by kernel_rfl
 i20:=by kernel_rfl
 i37:=by kernel_rfl
 i46:=by kernel_rfl
 i51:=by kernel_rfl
 i53:=by kernel_rfl
 i171:=by kernel_rfl
 i173:=by kernel_rfl
 i212:=by kernel_rfl
 i232:=by kernel_rfl
 i233:=by kernel_rfl
 m17:=by kernel_rfl
 m18:=by kernel_rfl
 m19:=by kernel_rfl }
open Go.RowKit Go.Sort Go.Lib in
/-- strconv.Itoa: "Itoa is equivalent to FormatInt(int64(i), 10).": i's DECIMAL NUMERAL ('Lib.itoa': a '-' where i is negative, then the digits), FOR EVERY int. The world behind the call: the world before it, new blocks behind the heap (the library's 'var a [24]byte'), draws. (LAID: no walk: one application.) -/
theorem Tryz.strconv_Itoa (n:Int) (h0 : -9223372036854775808≤n) (h1:n≤9223372036854775807) (w:World) (htab:Lib.TabIs Tryz.prog w "internal/strconv.uint64pow10" .u64 Lib.pow10Tab) :
  Calls Tryz.prog 95 #[.int .i64 n] w fun e w'=>e = .returned (.string ⟨(Lib.itoa n).toArray⟩)∧∃k os,w'=grow (w.drewN k) os:=Any.strconv_Itoa Tryz.laysM171 n h0 h1 w htab
def Tryz.laysC172_ren:Go.Shelf.Ren:=⟨fun|172=>93|244=>162|245=>163|247=>230|279=>231|280=>232|281=>233|282=>234|287=>276|316=>277|171=>95|205=>278|321=>302|322=>303|243=>164|246=>235|283=>279|284=>280|285=>281|286=>282|129=>305|317=>304|318=>306|319=>307|320=>308|337=>314|338=>315|n=>n,fun|9=>9|3=>3|75=>44|76=>45|4=>4|5=>5|167=>213|37=>24|0=>0|85=>214|2=>2|168=>216|53=>257|175=>258|46=>204|210=>261|127=>81|145=>277|143=>275|21=>21|171=>263|173=>266|212=>279|51=>246|20=>20|213=>280|232=>285|233=>286|80=>48|n=>n,fun|15=>4|16=>5|17=>6|18=>7|19=>8|n=>n⟩
theorem Tryz.laysC172:Go.Proofs.LaysC.n172 Tryz.prog Tryz.laysC172_ren:={
 mixed:=by kernel_rfl
 f129:=Tryz.func305.trans (congrArg some (by kernel_rfl))
 f171:=Tryz.func95.trans (congrArg some (by kernel_rfl))
 f172:=Tryz.func93.trans (congrArg some (by kernel_rfl))
 f205:=Tryz.func278.trans (congrArg some (by kernel_rfl))
 f243:=Tryz.func164.trans (congrArg some (by kernel_rfl))
 f244:=Tryz.func162.trans (congrArg some (by kernel_rfl))
 f245:=Tryz.func163.trans (congrArg some (by kernel_rfl))
 f246:=Tryz.func235.trans (congrArg some (by kernel_rfl))
 f247:=Tryz.func230.trans (congrArg some (by kernel_rfl))
 f279:=Tryz.func231.trans (congrArg some (by kernel_rfl))
 f280:=Tryz.func232.trans (congrArg some (by kernel_rfl))
 f281:=Tryz.func233.trans (congrArg some (by kernel_rfl))
 f282:=Tryz.func234.trans (congrArg some (by kernel_rfl))
 f283:=Tryz.func279.trans (congrArg some (by kernel_rfl))
 f284:=Tryz.func280.trans (congrArg some (by kernel_rfl))
 f285:=Tryz.func281.trans (congrArg some (by kernel_rfl))
 f286:=Tryz.func282.trans (congrArg some (by kernel_rfl))
 f287:=Tryz.func276.trans (congrArg some (by kernel_rfl))
 f316:=Tryz.func277.trans (congrArg some (by kernel_rfl))
 f317:=Tryz.func304.trans (congrArg some (by kernel_rfl))
 f318:=Tryz.func306.trans (congrArg some (by kernel_rfl))
 f319:=Tryz.func307.trans (congrArg some (by kernel_rfl))
 f320:=Tryz.func308.trans (congrArg some (by kernel_rfl))
 f321:=Tryz.func302.trans (congrArg some (by kernel_rfl))
 f322:=Tryz.func303.trans (congrArg some (by kernel_rfl))
 f337:=Tryz.func314.trans (congrArg some (by kernel_rfl))
 f338:=Tryz.func315.trans (congrArg some (by kernel_rfl))
 t0:=Tryz.underlying0
 a0:=Tryz.isAgg0
 z0:=Tryz.sizeOf0
 v0:=Tryz.zeroValue0
 t2:=Tryz.underlying2
 a2:=Tryz.isAgg2
 z2:=Tryz.sizeOf2
 v2:=Tryz.zeroValue2
 t3:=Tryz.underlying3
 a3:=Tryz.isAgg3
 z3:=Tryz.sizeOf3
 v3:=Tryz.zeroValue3
 t4:=Tryz.underlying4
 a4:=Tryz.isAgg4
 z4:=Tryz.sizeOf4
 v4:=Tryz.zeroValue4
 t5:=Tryz.underlying5
 a5:=Tryz.isAgg5
 z5:=Tryz.sizeOf5
 v5:=Tryz.zeroValue5
 t9:=Tryz.underlying9
 a9:=Tryz.isAgg9
 z9:=Tryz.sizeOf9
 v9:=Tryz.zeroValue9
 t20:=Tryz.underlying20
 a20:=Tryz.isAgg20
 z20:=Tryz.sizeOf20
 v20:=Tryz.zeroValue20
 t21:=Tryz.underlying21
 a21:=Tryz.isAgg21
 z21:=Tryz.sizeOf21
 v21:=Tryz.zeroValue21
 t37:=Tryz.underlying24
 a37:=Tryz.isAgg24
 z37:=Tryz.sizeOf24
 v37:=Tryz.zeroValue24
 t46:=Tryz.underlying204
 a46:=Tryz.isAgg204
 z46:=Tryz.sizeOf204
 v46:=Tryz.zeroValue204
 t51:=Tryz.underlying246
 a51:=Tryz.isAgg246
 z51:=Tryz.sizeOf246
 v51:=Tryz.zeroValue246
 t53:=Tryz.underlying257
 a53:=Tryz.isAgg257
 z53:=Tryz.sizeOf257
 v53:=Tryz.zeroValue257
 t75:=Tryz.underlying44
 a75:=Tryz.isAgg44
 z75:=Tryz.sizeOf44
 v75:=Tryz.zeroValue44
 t76:=Tryz.underlying45
 a76:=Tryz.isAgg45
 z76:=Tryz.sizeOf45
 v76:=Tryz.zeroValue45
 t85:=Tryz.underlying214
 a85:=Tryz.isAgg214
 z85:=Tryz.sizeOf214
 v85:=Tryz.zeroValue214
 t127:=Tryz.underlying81
 a127:=Tryz.isAgg81
 z127:=Tryz.sizeOf81
 v127:=Tryz.zeroValue81
 t143:=Tryz.underlying275
 a143:=Tryz.isAgg275
 z143:=Tryz.sizeOf275
 v143:=Tryz.zeroValue275
 t145:=Tryz.underlying277
 a145:=Tryz.isAgg277
 z145:=Tryz.sizeOf277
 v145:=Tryz.zeroValue277
 t167:=Tryz.underlying213
 a167:=Tryz.isAgg213
 z167:=Tryz.sizeOf213
 v167:=Tryz.zeroValue213
 t168:=Tryz.underlying216
 a168:=Tryz.isAgg216
 z168:=Tryz.sizeOf216
 v168:=Tryz.zeroValue216
 t171:=Tryz.underlying263
 a171:=Tryz.isAgg263
 z171:=Tryz.sizeOf263
 v171:=Tryz.zeroValue263
 t173:=Tryz.underlying266
 a173:=Tryz.isAgg266
 z173:=Tryz.sizeOf266
 v173:=Tryz.zeroValue266
 t175:=Tryz.underlying258
 a175:=Tryz.isAgg258
 z175:=Tryz.sizeOf258
 v175:=Tryz.zeroValue258
 t210:=Tryz.underlying261
 a210:=Tryz.isAgg261
 z210:=Tryz.sizeOf261
 v210:=Tryz.zeroValue261
 t212:=Tryz.underlying279
 a212:=Tryz.isAgg279
 z212:=Tryz.sizeOf279
 v212:=Tryz.zeroValue279
 t213:=Tryz.underlying280
 a213:=Tryz.isAgg280
 z213:=Tryz.sizeOf280
 t232:=Tryz.underlying285
 a232:=Tryz.isAgg285
 z232:=Tryz.sizeOf285
 v232:=Tryz.zeroValue285
 t233:=Tryz.underlying286
 a233:=Tryz.isAgg286
 z233:=Tryz.sizeOf286
 v233:=Tryz.zeroValue286
 g15:=by kernel_rfl
 g16:=by kernel_rfl
 g17:=by kernel_rfl
 g18:=by kernel_rfl
 g19:=by kernel_rfl
 t80:=Tryz.underlying48
 a80:=Tryz.isAgg48
 z80:=Tryz.sizeOf48
 v80:=Tryz.zeroValue48
 i0:=by kernel_rfl
 i2:=by kernel_rfl
 i3:=by kernel_rfl
 i4:=by kernel_rfl
 i5:=by kernel_rfl
 i9:=by kernel_rfl
 i20:=by kernel_rfl
 i21:=by kernel_rfl
 i37:=by kernel_rfl
 i46:=by kernel_rfl
 i51:=by kernel_rfl
 i53:=by kernel_rfl
 i75:=by kernel_rfl
 i76:=by kernel_rfl
 i80:=by kernel_rfl
 i85:=by kernel_rfl
 i127:=by kernel_rfl
 i143:=by kernel_rfl
 i145:=by kernel_rfl
 i167:=by kernel_rfl
 i168:=by kernel_rfl
 i171:=by kernel_rfl
 i173:=by kernel_rfl
 i175:=by kernel_rfl
 i210:=by kernel_rfl
 i212:=by kernel_rfl
 i232:=by kernel_rfl
 i233:=by kernel_rfl
 m15:=by kernel_rfl
 m16:=by kernel_rfl
 m17:=by kernel_rfl
 m18:=by kernel_rfl
 m19:=by kernel_rfl
 c0:=by kernel_rfl
 c2:=by kernel_rfl
 c3:=by kernel_rfl
 c4:=by kernel_rfl
 c5:=by kernel_rfl
 c9:=by kernel_rfl
 c20:=by kernel_rfl
 c21:=by kernel_rfl
 c37:=by kernel_rfl
 c46:=by kernel_rfl
 c51:=by kernel_rfl
 c53:=by kernel_rfl
 c75:=by kernel_rfl
 c76:=by kernel_rfl
 c80:=by kernel_rfl
 c85:=by kernel_rfl
 c127:=by kernel_rfl
 c143:=by kernel_rfl
 c145:=by kernel_rfl
 c167:=by kernel_rfl
 c168:=by kernel_rfl
 c171:=by kernel_rfl
 c173:=by kernel_rfl
 c175:=by kernel_rfl
 c210:=by kernel_rfl
 c212:=by kernel_rfl
 c213:=by kernel_rfl
 c232:=by kernel_rfl
 c233:=by kernel_rfl }
open Go.RowKit in
/-- strconv.Atoi, AT EVERY STRING THAT SPELLS AN int ('Lib.atoiAll .. = .ok v'; of whatever length: leading zeros count): v, AND NO ERROR. The world: as it was, or with the one new row that '[]byte(..)' lays. (LAID: no walk: one application.) -/
theorem Tryz.strconv_Atoi_ok (s:ByteArray) (hmax:s.size≤9223372036854775806) (v:Int) (h:Lib.atoiAll s.data.toList = .ok v) (w:World) :
  Calls Tryz.prog 93 #[.string s] w fun e w'=>e = .returned (.tuple #[.int .i64 v,.nilIface])∧(w'=w∨∃t,w'=Lib.bytesWorld w 5 t):=Any.strconv_Atoi_ok Tryz.laysC172 s hmax v h w
def Tryz.lays144_ren:Go.Shelf.Ren:=⟨fun|144=>127|143=>78|219=>142|217=>206|225=>207|224=>208|267=>209|266=>263|314=>264|n=>n,fun|9=>9|4=>4|3=>3|5=>5|46=>204|146=>247|51=>246|n=>n,fun|1=>0|n=>n⟩
theorem Tryz.lays144:Go.Proofs.Lays.n144 Tryz.prog Tryz.lays144_ren:={
 mixed:=by kernel_rfl
 f143:=Tryz.func78.trans (congrArg some (by kernel_rfl))
 f144:=Tryz.func127.trans (congrArg some (by kernel_rfl))
 f217:=Tryz.func206.trans (congrArg some (by kernel_rfl))
 f219:=Tryz.func142.trans (congrArg some (by kernel_rfl))
 f224:=Tryz.func208.trans (congrArg some (by kernel_rfl))
 f225:=Tryz.func207.trans (congrArg some (by kernel_rfl))
 f266:=Tryz.func263.trans (congrArg some (by kernel_rfl))
 f267:=Tryz.func209.trans (congrArg some (by kernel_rfl))
 f314:=Tryz.func264.trans (congrArg some (by kernel_rfl))
 t3:=Tryz.underlying3
 a3:=Tryz.isAgg3
 z3:=Tryz.sizeOf3
 v3:=Tryz.zeroValue3
 t4:=Tryz.underlying4
 a4:=Tryz.isAgg4
 z4:=Tryz.sizeOf4
 v4:=Tryz.zeroValue4
 t5:=Tryz.underlying5
 a5:=Tryz.isAgg5
 z5:=Tryz.sizeOf5
 v5:=Tryz.zeroValue5
 t9:=Tryz.underlying9
 a9:=Tryz.isAgg9
 z9:=Tryz.sizeOf9
 v9:=Tryz.zeroValue9
 t46:=Tryz.underlying204
 a46:=Tryz.isAgg204
 z46:=Tryz.sizeOf204
 v46:=Tryz.zeroValue204
 t51:=Tryz.underlying246
 a51:=Tryz.isAgg246
 z51:=Tryz.sizeOf246
 v51:=Tryz.zeroValue246
 t146:=Tryz.underlying247
 a146:=Tryz.isAgg247
 z146:=Tryz.sizeOf247
 v146:=Tryz.zeroValue247
 g1:=by kernel_rfl }
open Go.RowKit Go.Lib in
/-- strings.Contains: "Contains reports whether substr is within s.": AT A substr OF ONE BYTE c: IT RETURNS 'decide (0 ≤ Lib.indexByte s c)'; the world is as it was. (LAID: no walk: one application.) -/
theorem Tryz.strings_Contains_one (s:ByteArray) (c:UInt8) (w:World) :
  Calls Tryz.prog 127 #[.string s,.string ⟨#[c]⟩] w fun e w'=>e = .returned (.bool (decide (0≤Lib.indexByte s.data.toList c)))∧w'=w:=Any.strings_Contains_one Tryz.lays144 s c w
def Tryz.lays146_ren:Go.Shelf.Ren:=⟨fun|146=>13|221=>36|268=>76|138=>77|143=>78|195=>139|197=>140|218=>141|219=>142|260=>205|217=>206|225=>207|224=>208|267=>209|266=>263|314=>264|n=>n,fun|9=>9|31=>29|3=>3|4=>4|0=>0|105=>161|21=>21|5=>5|46=>204|119=>242|139=>245|138=>244|146=>247|51=>246|n=>n,fun|1=>0|3=>2|4=>3|n=>n⟩
theorem Tryz.lays146:Go.Proofs.Lays.n146 Tryz.prog Tryz.lays146_ren:={
 mixed:=by kernel_rfl
 f138:=Tryz.func77.trans (congrArg some (by kernel_rfl))
 f143:=Tryz.func78.trans (congrArg some (by kernel_rfl))
 f146:=Tryz.func13.trans (congrArg some (by kernel_rfl))
 f195:=Tryz.func139.trans (congrArg some (by kernel_rfl))
 f197:=Tryz.func140.trans (congrArg some (by kernel_rfl))
 f217:=Tryz.func206.trans (congrArg some (by kernel_rfl))
 f218:=Tryz.func141.trans (congrArg some (by kernel_rfl))
 f219:=Tryz.func142.trans (congrArg some (by kernel_rfl))
 f221:=Tryz.func36.trans (congrArg some (by kernel_rfl))
 f224:=Tryz.func208.trans (congrArg some (by kernel_rfl))
 f225:=Tryz.func207.trans (congrArg some (by kernel_rfl))
 f260:=Tryz.func205.trans (congrArg some (by kernel_rfl))
 f266:=Tryz.func263.trans (congrArg some (by kernel_rfl))
 f267:=Tryz.func209.trans (congrArg some (by kernel_rfl))
 f268:=Tryz.func76.trans (congrArg some (by kernel_rfl))
 f314:=Tryz.func264.trans (congrArg some (by kernel_rfl))
 t0:=Tryz.underlying0
 a0:=Tryz.isAgg0
 z0:=Tryz.sizeOf0
 v0:=Tryz.zeroValue0
 t3:=Tryz.underlying3
 a3:=Tryz.isAgg3
 z3:=Tryz.sizeOf3
 v3:=Tryz.zeroValue3
 t4:=Tryz.underlying4
 a4:=Tryz.isAgg4
 z4:=Tryz.sizeOf4
 v4:=Tryz.zeroValue4
 t5:=Tryz.underlying5
 a5:=Tryz.isAgg5
 z5:=Tryz.sizeOf5
 v5:=Tryz.zeroValue5
 t9:=Tryz.underlying9
 a9:=Tryz.isAgg9
 z9:=Tryz.sizeOf9
 v9:=Tryz.zeroValue9
 t21:=Tryz.underlying21
 a21:=Tryz.isAgg21
 z21:=Tryz.sizeOf21
 v21:=Tryz.zeroValue21
 t31:=Tryz.underlying29
 a31:=Tryz.isAgg29
 z31:=Tryz.sizeOf29
 v31:=Tryz.zeroValue29
 t46:=Tryz.underlying204
 a46:=Tryz.isAgg204
 z46:=Tryz.sizeOf204
 v46:=Tryz.zeroValue204
 t51:=Tryz.underlying246
 a51:=Tryz.isAgg246
 z51:=Tryz.sizeOf246
 v51:=Tryz.zeroValue246
 t105:=Tryz.underlying161
 a105:=Tryz.isAgg161
 z105:=Tryz.sizeOf161
 v105:=Tryz.zeroValue161
 t119:=Tryz.underlying242
 a119:=Tryz.isAgg242
 z119:=Tryz.sizeOf242
 t138:=Tryz.underlying244
 a138:=Tryz.isAgg244
 z138:=Tryz.sizeOf244
 v138:=Tryz.zeroValue244
 t139:=Tryz.underlying245
 a139:=Tryz.isAgg245
 z139:=Tryz.sizeOf245
 v139:=Tryz.zeroValue245
 t146:=Tryz.underlying247
 a146:=Tryz.isAgg247
 z146:=Tryz.sizeOf247
 v146:=Tryz.zeroValue247
 g1:=by kernel_rfl
 g3:=by kernel_rfl
 g4:=by kernel_rfl }
open Go.RowKit Go.Lib in
/-- strings.Split. (LAID: no walk: one application.) -/
theorem Tryz.strings_Split (s sep:ByteArray) (m:Int) (w:World) (hs:s.size<4294967281) (hm:w.cell? ⟨0,0,none⟩=some (.int .i64 m)) (h1:1≤sep.size) :
  Calls Tryz.prog 13 #[.string s,.string sep] w fun e w'=>
   e = .returned (.slice (some ⟨w.heap.size,0,none⟩) (Lib.countB s sep+1) (Lib.countB s sep+1))∧w'=w.alloc (.cells ((Lib.splitB sep 0 (Lib.countB s sep) s).map Value.string).toArray 9):=Any.strings_Split Tryz.lays146 (by kernel_rfl) s sep m w hs hm h1
end Go.Proofs
end
section
namespace Go.Proofs.YthjccajoadjicaaGreatDoor
open Go.RowKit
theorem ah4_ (w:World) (k:Nat) (os:Array Obj):Below w.heap.size w (Sort.grow (w.drewN k) os):=by
 refine⟨rfl,rfl,rfl,by simp[Sort.grow,World.drewN],fun i hi=>?_⟩
 show((w.drewN k).heap++os)[i]? = _
 rw[Array.getElem?_append_left (by simpa[World.drewN]using hi)]
 rfl
theorem ri_ (n:Int) (h0 : -9223372036854775808≤n) (h1:n≤9223372036854775807):ACall En 95 [.i .i64 n] [] [.s (Lib.itoa n)] []:=by
 refine gb_ (fn:=Tryz.f95) Tryz.func95 rfl rfl fun S w xs hx _ ⟨B,hB,_⟩=>?_
 simp only[VRs,VR]at hx
 obtain⟨x,r,e1,rfl,rfl⟩:=hx
 obtain rfl:xs=#[.int .i64 n]:=by apply Array.ext';simpa using e1
 refine(Tryz.strconv_Itoa n h0 h1 w hB.tab).mono ?_
 rintro e w' ⟨rfl,k,os,rfl⟩
 exact⟨[_],rfl,ah4_ _ _ _,.cons (by simp only[VR]) .nil⟩
theorem y7_ {φ:Phi} {S:Nat→Prop} {w:World} {z:Nat}:∀ {l:List Str} {xs:List Value},VRr φ S w z (ai_ l) xs→xs=l.map fun s=>Value.string ⟨s.toArray⟩
 |[],xs,h=>by simpa[ai_,VRr]using h
 |s::l,xs,h=>by
  simp only[ai_,List.map_cons,VRr]at h
  obtain⟨ys,zs,rfl,_,h2,_,h3⟩:=h
  simp only[VRs,VR]at h2
  obtain⟨x,r,rfl,rfl,rfl⟩:=h2
  rw[y7_ h3];rfl
theorem av2_ (l:List Str) (sep:Str) (hb:(sep.intercalate l).length≤1000000000000) (hn:l.length≤1000000000000):ACall En 81 [.sl false (ai_ l),.s sep] [] [.s (sep.intercalate l)] []:=by
 refine gb_ (fn:=Tryz.f81) Tryz.func81 rfl rfl fun S w xs hx _ _=>?_
 simp only[VRs,VR]at hx
 obtain⟨x,r,e1,⟨A,c,z,ys,rfl,h2,h3,h4,h5,h6⟩,y,q,rfl,rfl,rfl⟩:=hx
 obtain rfl:xs=#[.slice A (ai_ l).length c,.string ⟨sep.toArray⟩]:=by apply Array.ext';simpa using e1
 rw[af_]at *
 have hv:=y7_ h6
 by_cases h0:l=[]
 ·subst h0
  refine(Tryz.strings_Join_none A c ⟨sep.toArray⟩ w).mono ?_
  rintro e w' ⟨rfl,rfl⟩
  exact⟨[_],rfl,Below.refl _ _,.cons (by simp only[VR];simp[List.intercalate]) .nil⟩
 obtain⟨g,o,rfl,_,hg,hcell⟩:=h5 (by rw[hv];simpa using h0)
 have hj:Lib.join ((l.map fun s=>(⟨s.toArray⟩:ByteArray)).map fun x=>x.data.toList) (⟨sep.toArray⟩:ByteArray).data.toList=sep.intercalate l:=by
  unfold Lib.join
  simp[Function.comp_def]
 have:=Tryz.strings_Join g o c (l.map fun s=>⟨s.toArray⟩) ⟨sep.toArray⟩ w (fun j x hx=>hcell j _ (by rw[hv];rw[List.getElem?_map]at hx ⊢;cases hl:l[j]?<;>simp_all)) hg (by simp;omega) (by simp;omega) (by rw[hj];omega)
 rw[hj,List.length_map]at this
 refine this.mono ?_
 rintro e w' ⟨rfl,h⟩
 exact⟨[_],rfl,h,.cons (by simp only[VR]) .nil⟩
theorem gh_ (l:List Str) (hb:(ap_ l).length≤1000000000000) (hn:l.length≤1000000000000):ACall En 41 [.sl false (ai_ l)] [] [.s (ap_ l)] []:=by
 refine aa_ [] Tryz.func41 Tryz.ntmps41 fun C=>?_
 refine .seq (.rg [] ?_)
 refine .seq (.rg [ab_ (av2_ l [32] hb hn)] ?_)
 refine .ret ⟨.inr rfl,Out.pP Tryz.results41 ?_⟩;rfl
end Go.Proofs.YthjccajoadjicaaGreatDoor
end
section
namespace Go.Proofs.YthjccajoadjicaaGreatDoor
def wdR (l:Wd):List (List V):=l.map fun p=>[.s p.1,.i .i64 p.2]
theorem ci_ (l:Wd):(wdR l).length=l.length:=by simp[wdR]
theorem acu_ (a b:Wd):wdR (a++b)=wdR a++wdR b:=by simp[wdR]
theorem dp_:∀l:Wd,bg_ (wdR l)=true
 |[]=>rfl
 |p::l=>by simp only[wdR,List.map_cons,bg_,bu_,V.pure,Bool.true_and];exact dp_ l
theorem ay0_ (l:Wd):∀r∈wdR l,r.length=2:=fun r hr=>by
 obtain⟨p,_,rfl⟩:=List.mem_map.1 hr;rfl
theorem jy_ {l:Wd} {k:Nat} (h:k<l.length):(wdR l).getD k []=[.s (l.getD k ([],0)).1,.i .i64 (l.getD k ([],0)).2]:=by
 simp[wdR,List.getD_eq_getElem?_getD,List.getElem?_eq_getElem h]
theorem b0_ (l:Wd):(∀r,r∈wdR l→r.length=2)=True:=eq_true (ay0_ l)
theorem ahr_ {e:E} {d:Nat} (h:form e d=true) (hm:many e d≤1000) (must nx:Int):(src e must nx).length≤3000:=by
 rw[←List.length_map (f:=(·.1)),eu_]
 have:=cw_ d e must h;omega
theorem k1_ (e:E) (must nx:Int):(src e must nx).length=(wds e must).length:=by
 rw[←eu_ e must nx,List.length_map]
theorem l1_ {n:Int} (h:0≤n):Lib.itoa n=Lib.decDigits n.toNat:=by unfold Lib.itoa;rw[if_neg (by omega)]
theorem al0_ {e:E} {d:Int} (h:form e d=true) (must nx:Int):src e must nx=brk (decide (e.kind=3)&&decide (ak_ e.s<must)) (src e 0 nx):=by
 rcases (aj_ h).2 with⟨k1,_⟩|⟨k1,_⟩|⟨k1,h1,h2,h3,h4,h5⟩|⟨k1,h1,h2,h3,h4⟩
 ·rw[show(decide (e.kind=3))=false by simp[k1]];cases e;simp only[E.kind]at k1;subst k1;simp[src,brk]
 ·rw[show(decide (e.kind=3))=false by simp[k1]];cases e;simp only[E.kind]at k1;subst k1;simp[src,brk]
 ·have:=by_ h2
  rw[jx_ k1 h3,jx_ k1 h3,show decide (ak_ e.s<0)=false by simp;omega]
  simp[k1,brk]
 rw[re_ k1 h3,re_ k1 h3];simp[k1,brk]
def mx2 (t:Int):Int:=if t > 2 then t else 2
theorem as1_ (t:Int):mx2 t=max 2 t:=by unfold mx2;split<;>omega
attribute [local go_sem] ci_ dp_ List.length_append List.take_of_length_le in
theorem oq_ (d:Nat):∀(e:E) (must nx:Int),form e d=true→sm e=true→many e d≤1000→0≤nx→nx+cnt e≤1000000→must≤1000→ 
  ACall En 202 [.ag (eC e),.i .i64 must,.pt 0 1 0 0] [⟨3,1,[[.i .i64 nx]]⟩] [.ow 1 2 0 (src e must nx).length] [⟨3,1,[[.i .i64 (nx+cnt e)]]⟩,⟨158,2,wdR (src e must nx)⟩]:=by
 induction d with
 |zero=>intro e must nx h;have:=(aj_ h).1;omega
 |succ d ih=>
 intro e must nx h hs hm hx hx2 hmu
 obtain⟨a1,a2,a3⟩:=fg_ hs
 have e1:((d+1:Nat):Int) - 1=(d:Int):=by omega
 have hd1:(1:Int)≤((d+1:Nat):Int):=by omega
 have hc:=(cw_ (d+1) e must h).2.2.2
 have g12:(e.kind=1∨e.kind=2)→cnt e=1∧src e must nx=[(if e.kind=1 then Lib.decDigits e.n.toNat else e.s,nx)]∧(e.kind=1→0≤e.n∧e.n≤1000000):=fun hk=>by
  rcases (aj_ h).2 with⟨k1,h1,h2,h3,h4⟩|⟨k1,h1,h2,h3⟩|⟨k1,_⟩|⟨k1,_⟩<;>try omega
  ·cases e;simp only[E.kind,E.kids]at k1 h4;subst k1 h4;simp[cnt,xp_,src,E.n,E.kind]at *;omega
  cases e;simp only[E.kind,E.kids]at k1 h3;subst k1 h3;simp[cnt,xp_,src,E.s,E.kind]
 have g3:e.kind=3→e.kids.length=2∧1≤ak_ e.s∧ak_ e.s≤3∧form (e.kids.getD 0 E0) d=true∧form (e.kids.getD 1 E0) d=true∧many (e.kids.getD 0 E0) d≤1000∧many (e.kids.getD 1 E0) d≤1000∧0≤cnt (e.kids.getD 0 E0)∧cnt (e.kids.getD 0 E0)≤1000∧nx+cnt e=nx+1+cnt (e.kids.getD 0 E0)+cnt (e.kids.getD 1 E0)∧0≤cnt (e.kids.getD 1 E0):=fun hk=>by
  rcases (aj_ h).2 with⟨k1,_⟩|⟨k1,_⟩|⟨k1,h1,h2,h3,h4,h5⟩|⟨k1,_⟩<;>try omega
  rw[e1]at h4 h5
  have:=by_ h2
  have hm2:=ku_ hd1 h3
  rw[e1]at hm2
  have q1:=cw_ d _ 0 h4
  have q2:=cw_ d _ 0 h5
  exact⟨h3,this.1,this.2,h4,h5,by omega,by omega,by omega,by omega,by rw[oj_ k1 h3];omega,by omega⟩
 have g4:e.kind=4→e.kids.length=1∧form (e.kids.getD 0 E0) d=true∧many (e.kids.getD 0 E0) d≤1000∧cnt e=cnt (e.kids.getD 0 E0):=fun hk=>by
  rcases (aj_ h).2 with⟨k1,_⟩|⟨k1,_⟩|⟨k1,_⟩|⟨k1,h1,h2,h3,h4⟩<;>try omega
  rw[e1]at h4
  have hm2:=mj_ hd1 h3
  rw[e1]at hm2
  have q1:=cw_ d _ 0 h4
  exact⟨h3,h4,by omega,abx_ k1 h3⟩
 have g0:e.kind=1∨e.kind=2∨e.kind=3∨e.kind=4:=by
  rcases (aj_ h).2 with⟨k1,_⟩|⟨k1,_⟩|⟨k1,_⟩|⟨k1,_⟩<;>omega
 have hT:e.kind=3→src e must nx=brk (decide (ak_ e.s<must)) (src (e.kids.getD 0 E0) (mx2 (ak_ e.s)) (nx+1)++(e.s,nx)::src (e.kids.getD 1 E0) (ak_ e.s+1) (nx+1+cnt (e.kids.getD 0 E0)))∧nx+cnt e=nx+1+cnt (e.kids.getD 0 E0)+cnt (e.kids.getD 1 E0):=fun hk=>⟨by rw[as1_];exact jx_ hk (g3 hk).1 _ _,(g3 hk).2.2.2.2.2.2.2.2.2.1⟩
 have hA:e.kind=4→src e must nx=src (e.kids.getD 0 E0) 4 nx++[([97,115], -1),(e.s, -1)]∧cnt e=cnt (e.kids.getD 0 E0):=fun hk=>⟨re_ hk (g4 hk).1 _ _,(g4 hk).2.2.2⟩
 have hL:∀k,k<e.kids.length→∀m n,(src (e.kids.getD k E0) m n).length≤3000:=fun k hk m n=>by
  rcases g0 with hk4|hk4|hk4|hk4
  ·rcases (aj_ h).2 with⟨k1,h1,h2,h3,h4⟩|⟨k1,_⟩|⟨k1,_⟩|⟨k1,_⟩<;>try omega
   rw[h4]at hk;simp at hk
  ·rcases (aj_ h).2 with⟨k1,_⟩|⟨k1,h1,h2,h3⟩|⟨k1,_⟩|⟨k1,_⟩<;>try omega
   rw[h3]at hk;simp at hk
  ·have:=g3 hk4
   have hk2:k=0∨k=1:=by omega
   rcases hk2 with rfl|rfl
   ·exact ahr_ this.2.2.2.1 this.2.2.2.2.2.1 _ _
   exact ahr_ this.2.2.2.2.1 this.2.2.2.2.2.2.1 _ _
  have:=g4 hk4
  have hk2:k=0:=by omega
  subst hk2
  exact ahr_ this.2.1 this.2.2.1 _ _
 refine aa_ [0,150] Tryz.func202 Tryz.ntmps202 fun C=>?_
 refine .seq (.rg [] ?_)
 refine .seq (.rg [] ?_)
 refine .seqJ (fun u:Unit=>⟨[.no,.no,.no,.no,.no,.no,.no,.ow 150 2 0 (src e must nx).length,.no,.no,.no,.no,.no,.no,.no,.no,.no,.no,.no,.no,.no,.no,.no,.no,.no,.no,.no,.no,.no,.no,.no,.no,.no,.no,.no,.no,.no,.no,.no,.no,.no,.no,.no,.no,.no,.no,.no,.no,.no,.no,.no,.no,.no,.no,.no,.no,.no,.no,.no,.no,.no,.no,.no,.no,.no,.no,.no,.no,.no,.no,.no,.no,.no,.no,.no,.no,.no,.no,.no,.no,.no,.no,.no,.no,.no,.no,.no,.no,.no,.no,.no,.no,.no,.no,.no,.no,.no],ae_ [(0,⟨3,1,[[.i .i64 (nx+cnt e)]]⟩),(150,⟨158,2,wdR (src e must nx)⟩)],us [150]⟩) (fun u:Unit=>True) ?_ (fun u hJ=>?_)
 ·refine .seq (.rg [] ?_)
  refine .block (.seqJ (fun q:Bool=>⟨[.no,.i .i64 must,.pt 0 1 0 0,.pt 13 4 0 0,.no,.no,.no,.no,.no,.no,.no,.no,.i .i64 e.kind,.b q,.no,.no,.no,.no,.no,.no,.no,.no,.no,.no,.no,.no,.no,.no,.no,.no,.no,.no,.no,.no,.no,.no,.no,.no,.no,.no,.no,.no,.no,.no,.no,.no,.no,.no,.no,.no,.no,.no,.no,.no,.no,.no,.no,.no,.no,.no,.no,.no,.no,.no,.no,.no,.no,.no,.no,.no,.no,.no,.no,.no,.no,.no,.no,.no,.no,.no,.no,.no,.no,.no,.no,.no,.no,.no,.no,.no,.no,.no,.no,.no,.no,.no,.no],ae_ [(0,⟨3,1,[[.i .i64 nx]]⟩),(13,⟨56,4,[eC e]⟩)],us [13]⟩) (fun q:Bool=>q=(e.kind==1||e.kind==2)) ?_ (fun q hJ=>?_))
  ·refine .seq (.rg [] ?_)
   refine .cB (fun h13=>?_) fun h13=>?_
   ·refine .skip ?_
    refine Exists.intro ((e.kind==1||e.kind==2)) ⟨?_,?_⟩
    ·rfl
    refine Can.wh ?_;simp_all
   refine .rg [] ?_
   refine Exists.intro ((e.kind==1||e.kind==2)) ⟨?_,?_⟩
   ·rfl
   refine Can.wh ?_;simp_all
  refine .cB (fun h13=>?_) fun h13=>?_
  ·refine .seq (.rg [] ?_)
   refine .seqJ (fun s:Str=>⟨[.no,.no,.pt 0 1 0 0,.pt 13 4 0 0,.no,.no,.no,.no,.s s,.no,.no,.no,.no,.no,.no,.no,.no,.no,.no,.no,.no,.no,.no,.no,.no,.no,.no,.no,.no,.no,.no,.no,.no,.no,.no,.no,.no,.no,.no,.no,.no,.no,.no,.no,.no,.no,.no,.no,.no,.no,.no,.no,.no,.no,.no,.no,.no,.no,.no,.no,.no,.no,.no,.no,.no,.no,.no,.no,.no,.no,.no,.no,.no,.no,.no,.no,.no,.no,.no,.no,.no,.no,.no,.no,.no,.no,.no,.no,.no,.no,.no,.no,.no,.no,.no,.no,.no],ae_ [(0,⟨3,1,[[.i .i64 nx]]⟩),(13,⟨56,4,[eC e]⟩)],us [13]⟩) (fun s:Str=>s=if e.kind=1 then Lib.decDigits e.n.toNat else e.s) ?_ (fun s hJ=>?_)
   ·refine .seq (.rg [] ?_)
    refine .cB (fun h20=>?_) fun h20=>?_
    ·refine .rg [ab_ (ri_ e.n (by have:=(g12 (.inl (by simpa using h20))).2.2 (by simpa using h20);omega) (by have:=(g12 (.inl (by simpa using h20))).2.2 (by simpa using h20);omega))] ?_
     refine⟨Lib.itoa e.n,?_,?_⟩
     ·simp_all[l1_]
     refine Can.wh ?_;trivial
    refine .skip ?_
    refine⟨e.s,?_,?_⟩
    ·simp_all[l1_]
    refine Can.wh ?_;trivial
   refine .seq (.rgS [29] [bsO En] ?_)
   refine .rg [] ?_ (h:=by simp only[go_sem,seval,ac_ (show -9223372036854775808≤nx+1 by omega) (by omega)];rfl)
   refine Exists.intro (()) ⟨?_,?_⟩
   ·trivial
   refine Can.trans (Can.sX 39 150) ?_
   refine Can.wk ?_ ?_
   ·(rw[(g12 (by simp_all)).2.1];rfl)
   (rw[(g12 (by simp_all)).2.1,(g12 (by simp_all)).1,hJ];simp[wdR])
  refine .seq (.rg [] ?_)
  refine .cB (fun h35=>?_) fun h35=>?_
  ·refine .seq (.rgD [ab_ (mc_ e.s)] ?_)
   refine .seq (.rg [] ?_ (h:=by simp only[go_sem,seval,ac_ (show -9223372036854775808≤nx+1 by omega) (by omega)];rfl))
   refine .seq (.rgDo [at_ [0] [65] (ih (e.kids.getD 0 E0) (mx2 (ak_ e.s)) (nx+1) (g3 (by simpa using h35)).2.2.2.1 (cj_ a3 _ (ag_ (by have:=g3 (by simpa using h35);omega))) (g3 (by simpa using h35)).2.2.2.2.2.1 (by omega) (by have:=g3 (by simpa using h35);omega) (by have:=g3 (by simpa using h35);rw[as1_];omega))] ?_ ?_ (h:=by simp only[go_sem,seval,b8_ (show 0<e.kids.length by have:=g3 (by simpa using h35);omega),aw_,a5_];rfl))
   ·have q:=g3 (by simpa using h35);have q1:=hL 0 (by omega) (mx2 (ak_ e.s)) (nx+1);have q2:0<e.kids.length:=(by omega);simp only[mx2,gt_iff_lt]at q1 ⊢;simp[-List.getD_eq_getElem?_getD,c7_,q2];omega
   refine .seq (.rgo [at_ [0] [80] (ih (e.kids.getD 1 E0) (ak_ e.s+1) (nx+1+cnt (e.kids.getD 0 E0)) (g3 (by simpa using h35)).2.2.2.2.1 (cj_ a3 _ (ag_ (by have:=g3 (by simpa using h35);omega))) (g3 (by simpa using h35)).2.2.2.2.2.2.1 (by have:=g3 (by simpa using h35);omega) (by have:=g3 (by simpa using h35);omega) (by have:=g3 (by simpa using h35);omega))] ?_ ?_ (h:=by simp only[go_sem,seval,b8_ (show 1<e.kids.length by have:=g3 (by simpa using h35);omega),aw_,a5_,ac_ (show -9223372036854775808≤ak_ e.s+1 by have:=g3 (by simpa using h35);omega) (by have:=g3 (by simpa using h35);omega)];rfl))
   ·have q:=g3 (by simpa using h35);have q1:=hL 0 (by omega) (mx2 (ak_ e.s)) (nx+1);have q2:1<e.kids.length:=(by omega);have q3:=hL 1 (by omega) (ak_ e.s+1) (nx+1+cnt (e.kids.getD 0 E0));simp[-List.getD_eq_getElem?_getD,c7_,q2,b0_];omega
   refine .seq (.rg [] ?_)
   refine .cB (fun h74=>?_) fun h74=>?_
   ·refine .rgo [] ?_ ?_
    ·have q:=g3 (by simpa using h35);have q1:=hL 0 (by omega) (mx2 (ak_ e.s)) (nx+1);have q3:=hL 1 (by omega) (ak_ e.s+1) (nx+1+cnt (e.kids.getD 0 E0));simp[-List.getD_eq_getElem?_getD,c7_,b0_,or_imp,forall_and];(first|omega)
    refine Exists.intro (()) ⟨?_,?_⟩
    ·trivial
    refine Can.trans (Can.sX 91 150) ?_
    refine Can.wk ?_ ?_
    ·(rw[(hT (by simpa using h35)).1,h74];simp[brk];(first|done|omega))
    (rw[(hT (by simpa using h35)).1,(hT (by simpa using h35)).2,h74];simp[brk,wdR,b7_,acu_])
   refine .skip ?_
   refine Exists.intro (()) ⟨?_,?_⟩
   ·trivial
   refine Can.trans (Can.sX 81 150) ?_
   refine Can.wk ?_ ?_
   ·(rw[(hT (by simpa using h35)).1,h74];simp[brk];(first|done|omega))
   (rw[(hT (by simpa using h35)).1,(hT (by simpa using h35)).2,h74];simp[brk,wdR,b7_,acu_])
  refine .seq (.rg [] ?_)
  refine .cB (fun h82=>?_) fun h82=>?_
  ·refine .rgDo [at_ [0] [99] (ih (e.kids.getD 0 E0) 4 nx (g4 (by simpa using h82)).2.1 (cj_ a3 _ (ag_ (by have:=g4 (by simpa using h82);omega))) (g4 (by simpa using h82)).2.2.1 hx (by have:=g4 (by simpa using h82);omega) (by decide))] ?_ ?_ (h:=by simp only[go_sem,seval,b8_ (show 0<e.kids.length by have:=g4 (by simpa using h82);omega),aw_,a5_];rfl)
   ·have q:=g4 (by simpa using h82);have q1:=hL 0 (by omega) 4 nx;have q2:0<e.kids.length:=(by omega);simp[-List.getD_eq_getElem?_getD,c7_,q2];omega
   refine Exists.intro (()) ⟨?_,?_⟩
   ·trivial
   refine Can.trans (Can.sX 105 150) ?_
   refine Can.wk ?_ ?_
   ·(rw[(hA (by simpa using h82)).1];simp)
   (rw[(hA (by simpa using h82)).1,(hA (by simpa using h82)).2];simp[wdR])
  simp_all
 refine .seq (.rg [] ?_)
 refine .ret ⟨.inr rfl,Out.mP Tryz.results202 ?_ ?_⟩
 ·trivial
 trivial
end Go.Proofs.YthjccajoadjicaaGreatDoor
end
section
namespace Go.Proofs.YthjccajoadjicaaGreatDoor
theorem ayx_ {l:Wd} {k:Nat} (h:k<l.length):(ai_ (l.map (·.1))).getD k []=[.s (l.getD k ([],0)).1]:=by
 simp[ai_,List.getD_eq_getElem?_getD,List.getElem?_eq_getElem h]
theorem v4_ {r:List V} {l:List Str} (h:r∈ai_ l):r.length=1:=by
 obtain⟨s,_,rfl⟩:=List.mem_map.1 h;rfl
theorem j2_ (l:List Str) (k j:Nat):((fi_ (ai_ l) [.s []] k).getD j []).drop 1=[]:=by
 rw[List.getD_eq_getElem?_getD]
 cases h:(fi_ (ai_ l) [.s []] k)[j]? with
 |none=>rfl
 |some r=>
  have hm:=List.mem_of_getElem? h
  have:r.length=1:=by
   rcases qd_ hm with hm|rfl
   ·exact v4_ hm
   rfl
  simp only[Option.getD_some];exact List.drop_of_length_le (by omega)
attribute [local go_sem] ci_ dp_ j2_ gm_ in
theorem ls_ (l:Wd) (hl:l.length≤1000000):ACall En 204 [.sl false (wdR l)] [] [.sl false (ai_ (l.map (·.1)))] []:=by
 have hp:∀k,bg_ (fi_ (ai_ (l.map (·.1))) [.s []] k)=true:=fun k=>iq_ (ah_ _) rfl
 have hll:(ai_ (l.map (·.1))).length=l.length:=by simp[ai_]
 refine aa_ [] Tryz.func204 Tryz.ntmps204 fun C=>?_
 refine .seq (.rg [] ?_ (h:=by simp only[go_sem,seval,hp,hll];rfl))
 refine .seq (.rgo [] ?_ ?_ (h:=by simp only[go_sem,seval,hp,hll];rfl))
 ·simp;omega
 refine .seq (.seq (.rg [] ?_ (h:=by simp only[go_sem,seval,hp,hll];rfl)))
 refine .block (.loopK (fun k:Nat=>⟨[.no,.no,.no,.ow 18 1 0 l.length,.no,.no,.no,.no,.no,.sl false (wdR l),.i .i64 l.length,.i .i64 k,.no,.no,.no,.no,.no,.no,.no,.no,.no,.no,.no],ae_ [(18,⟨9,1,fi_ (ai_ (l.map (·.1))) [.s []] k⟩)],us [18]⟩) (fun k:Nat=>k≤l.length) (fun k:Nat=>l.length - k) (0) ?_ ?_ (fun k hI=>?_))
 ·simp
 ·exact Can.wl (h:=by simp only[go_sem,seval,hp,hll,av_,leV,as_,au_,V.inn,us,true_or,or_true]<;>(simp)) (hi:=by simp only[go_sem,seval,hp,hll,av_,leV,as_,au_,V.inn,us,true_or,or_true]) (hL:=by simp only[go_sem,seval,hp,hll,av_,leV,as_,au_,V.inn,us,true_or,or_true]<;>(simp[it_,hll]))
 refine .seq (.rg [] ?_ (h:=by simp only[go_sem,seval,hp,hll];rfl))
 refine .seq (.cB (fun h12=>?_) (fun h12=>?_) (hc:=by simp only[go_sem,seval,hp,hll];rfl) (hp:=by simp only[go_sem,seval,hp,hll]))
 ·refine .skip (.seq (.block (.seq (.rgo [] ?_ ?_ (h:=by simp only[go_sem,seval,hp,hll,jy_ (show k<l.length by simpa using h12)];rfl)))))
  ·((simp at h12;simp;omega))
  refine .rgo [] ?_ ?_ (h:=by simp only[go_sem,seval,hp,hll,jf_ (l:=ai_ (l.map (·.1))) (show k<(ai_ (l.map (·.1))).length by rw[hll];simpa using h12)];rfl)
  ·((simp at h12;simp;omega))
  refine .rg [] ?_ (h:=by simp only[go_sem,seval,hp,hll];rfl)
  refine⟨k+1,?_,?_,?_⟩
  ·simp at h12;omega
  ·simp at h12;omega
  exact Can.wl (h:=by simp only[go_sem,seval,hp,hll,av_,leV,as_,au_,V.inn,us,true_or,or_true]<;>(rw[ac_ (by simp at h12;omega) (by simp at h12;omega)];simp)) (hi:=by simp only[go_sem,seval,hp,hll,av_,leV,as_,au_,V.inn,us,true_or,or_true]) (hL:=by simp only[go_sem,seval,hp,hll,av_,leV,as_,au_,V.inn,us,true_or,or_true]<;>((rw[←jf_ (by rw[hll];simpa using h12),ayx_ (by simpa using h12)])))
 refine .exit (.seq (.rg [] ?_ (h:=by simp only[go_sem,seval,hp,hll];rfl)))
 refine .frz 18 (by simp only[go_sem,seval,hp,hll];rfl) (by simp only[go_sem,seval,hp,hll]) (by simp only[go_sem,seval,hp,hll];rfl) (by simp only[go_sem,seval,hp,hll];rfl) ?_
 refine .ret ⟨.inr rfl,?_⟩
 exact Out.pl (by simp only[Tryz.results204];rfl) (by simp only[ba_,go_sem,seval,hp,hll]<;>(simp at h12;rw[kj_ (by omega)];simp[←hll,List.take_of_length_le,peel])) (h1:=by simp only[a1_,bn_,go_sem,seval,hp,hll]<;>(split<;>rfl)) (h3:=by simp only[go_sem,seval,hp,hll])
/-- the cells of a line without types -/
def bC (b:Bl):List V:=.i .i64 b.kind::.s b.name::(eC b.expr++eC b.thn)
theorem cp_ (b:Bl):bC b=[.i .i64 b.kind,.s b.name,.i .i64 b.expr.kind,.i .i64 b.expr.n,.s b.expr.s,.sl false (eR b.expr.kids),.i .i64 b.thn.kind,.i .i64 b.thn.n,.s b.thn.s,.sl false (eR b.thn.kids)]:=by
 simp only[bC,dz_];rfl
/-- small enough to be counted -/
def smb (b:Bl):Bool:=decide (b.name.length<4611686018427387904)&&sm b.expr&&sm b.thn
theorem qf_ {b:Bl} (h:smb b=true):b.name.length<4611686018427387904∧sm b.expr=true∧sm b.thn=true:=by
 simp only[smb,Bool.and_eq_true,decide_eq_true_eq]at h;exact⟨h.1.1,h.1.2,h.2⟩
/-- the words of a line without types, with their numbers -/
def et_ (b:Bl):Wd:=
 if b.kind=1 then(b.name,101)::(wEq,102)::src b.expr 0 0
 else if b.kind=2 then(bj_,103)::src b.expr 0 0
 else if b.kind=3 then((wIf,100)::src b.expr 0 0++[(bz_, -1),(bj_,103)])++src b.thn 0 (cnt b.expr)
 else []
theorem q7_ {b:Bl} (h:cx_ b=true):(b.kind=0∨b.kind=1∨b.kind=2∨b.kind=3)∧(b.kind=1∨b.kind=2∨b.kind=3→eok b.expr=true)∧(b.kind=3→eok b.thn=true):=by
 unfold cx_ at h
 by_cases k0:b.kind=0
 ·simp[k0]
 by_cases k1:b.kind=1
 ·simp[k1]at h;simp[k1];exact ca_ h.1.2
 by_cases k2:b.kind=2
 ·simp[k2]at h;simp[k2];exact ca_ h.1.2
 by_cases k3:b.kind=3
 ·simp[k3]at h;simp[k3];exact⟨ca_ h.1.2,ca_ h.2⟩
 simp[k0,k1,k2,k3]at h
theorem alf_ {b:Bl} (h:cx_ b=true):(et_ b).map (·.1)=bw b:=by
 obtain⟨h0,h1,h2⟩:=q7_ h
 unfold et_ bw
 rcases h0 with k|k|k|k
 ·simp[k]
 ·simp[k,eu_,fa_ (ao_ (h1 (.inl k)))]
 ·simp[k,eu_,fa_ (ao_ (h1 (.inr (.inl k))))]
 simp[k,eu_,fa_ (ao_ (h1 (.inr (.inr k)))),fa_ (ao_ (h2 k))]
theorem h8_ {e:E} (h:eok e=true):many e ((5:Nat):Int)≤1000:=by have:=kh_ h;show many e 5≤1000;omega
theorem nt_ {e:E} (h:eok e=true):1≤cnt e∧cnt e≤12:=by have:=(cw_ 5 e 0 (ao_ h)).2.2.2;have h2:=kh_ h;have h3:many e ((5:Nat):Int)=many e 5:=rfl;omega
theorem h9_ {e:E} (h:eok e=true) (must nx:Int):(src e must nx).length≤36:=by rw[k1_];exact(bk_ h must).2.1
theorem fz_ (l:Wd):wdR l=[]↔l=[]:=by cases l<;>simp[wdR]
attribute [local go_sem] ci_ dp_ List.length_append List.take_of_length_le cp_ in
theorem agq_ (b:Bl) (h:cx_ b=true) (hs:smb b=true):ACall En 135 [.ag (bC b)] [] [.sl false (wdR (et_ b))] []:=by
 obtain⟨h0,h1,h2⟩:=q7_ h
 obtain⟨s1,s2,s3⟩:=qf_ hs
 have W:b.kind=1∨b.kind=2∨b.kind=3→_:=fun hk=>oq_ 5 b.expr 0 0 (ao_ (h1 hk)) s2 (h8_ (h1 hk)) (by decide) (by have:=nt_ (h1 hk);omega) (by decide)
 have W3:b.kind=3→_:=fun hk=>oq_ 5 b.thn 0 (0+cnt b.expr) (ao_ (h2 hk)) s3 (h8_ (h2 hk)) (by have:=nt_ (h1 (.inr (.inr hk)));omega) (by have:=nt_ (h1 (.inr (.inr hk)));have:=nt_ (h2 hk);omega) (by decide)
 refine aa_ [] Tryz.func135 Tryz.ntmps135 fun C=>?_
 refine .seq (.rg [] ?_)
 refine .seq (.rg [] ?_)
 refine .seq (.seq (.rg [] ?_))
 refine .block (.seq (.rg [] ?_))
 refine .cB (fun h7=>?_) fun h7=>?_
 ·refine .seq (.rgDo [at_ [13] [26] (W (.inl (by simpa using h7)))] ?_ ?_ (h:=by simp only[go_sem,seval,aw_,a5_];rfl))
  ·have q:=h1 (.inl (by simpa using h7));have q2:=(h9_ q 0 0);have q3:src b.expr 0 0≠[]:=(fun e=>by have:=(bk_ q 0).1;rw[←k1_ b.expr 0 0,e]at this;simp at this);simp[c7_,b0_,q3,fz_];omega
  refine .fX 27 ?_
  refine .ret ⟨.inr rfl,Out.pP Tryz.results135 ?_⟩;have k:b.kind=1:=(by simpa using h7);rw[if_pos (by omega),List.take_of_length_le (by simp[ci_];omega)];simp[et_,k,wdR,peel,wEq]
 refine .seq (.rg [] ?_)
 refine .cB (fun h18=>?_) fun h18=>?_
 ·refine .seq (.rgo [at_ [13] [34] (W (.inr (.inl (by simpa using h18))))] ?_ ?_ (h:=by simp only[go_sem,seval,aw_,a5_];rfl))
  ·have q:=h1 (.inr (.inl (by simpa using h18)));have q2:=(h9_ q 0 0);have q3:src b.expr 0 0≠[]:=(fun e=>by have:=(bk_ q 0).1;rw[←k1_ b.expr 0 0,e]at this;simp at this);simp[c7_,b0_,q3,fz_];omega
  refine .fX 35 ?_
  refine .ret ⟨.inr rfl,Out.pP Tryz.results135 ?_⟩;have k:b.kind=2:=(by simpa using h18);rw[if_pos (by omega),List.take_of_length_le (by simp[ci_];omega)];simp[et_,k,wdR,peel,bj_]
 refine .seq (.rg [] ?_)
 refine .cB (fun h26=>?_) fun h26=>?_
 ·refine .seq (.rgo [at_ [13] [42] (W (.inr (.inr (by simpa using h26))))] ?_ ?_ (h:=by simp only[go_sem,seval,aw_,a5_];rfl))
  ·have q:=h1 (.inr (.inr (by simpa using h26)));have q2:=(h9_ q 0 0);have q3:src b.expr 0 0≠[]:=(fun e=>by have:=(bk_ q 0).1;rw[←k1_ b.expr 0 0,e]at this;simp at this);simp[c7_,b0_,q3,fz_];omega
  refine .seq (.rgo [] ?_ ?_)
  ·have q:=h1 (.inr (.inr (by simpa using h26)));have q2:=(h9_ q 0 0);simp[c7_,b0_];omega
  refine .seq (.rgo [at_ [13] [52] (W3 (by simpa using h26))] ?_ ?_ (h:=by simp only[go_sem,seval,aw_,a5_];rfl))
  ·have q:=h1 (.inr (.inr (by simpa using h26)));have q2:=(h9_ q 0 0);have q4:=h9_ (h2 (by simpa using h26)) 0 (0+cnt b.expr);simp at q4;simp[c7_,b0_];omega
  refine .fX 53 ?_
  refine .ret ⟨.inr rfl,Out.pP Tryz.results135 ?_⟩;have k:b.kind=3:=(by simpa using h26);rw[if_pos (by omega),List.take_of_length_le (by simp[ci_];omega)];simp[et_,k,wdR,peel,bj_,wIf,bz_]
 refine .skip (.seq (.rg [] ?_))
 refine .can (Can.slotLe 2 (.sl false []) (by simp only[go_sem,seval]<;>trivial) (by simp only[go_sem,seval]<;>rfl)) ?_
 refine .ret ⟨.inr rfl,Out.pP Tryz.results135 ?_⟩;have k:b.kind=0:=(by simp_all);simp[et_,k,wdR]
end Go.Proofs.YthjccajoadjicaaGreatDoor
end
section
namespace Go.Proofs.YthjccajoadjicaaGreatDoor
theorem ov_ {b:Bl} (h:cx_ b=true):(ap_ (bw b)).length≤1000:=by
 have:=nu_ h
 have h2:=uk_ (fun s hs=>(this.2 s hs).2)
 omega
attribute [local go_sem] cp_ dp_ in
theorem t4_ (b:Bl) (h:cx_ b=true) (hs:smb b=true):ACall En 136 [.ag (bC b)] [] [.s (ap_ (bw b))] []:=by
 have h1:=ov_ h
 have h2:=(nu_ h).1
 have h3:=alf_ h
 have h4:(et_ b).length=(bw b).length:=by rw[←h3,List.length_map]
 refine aa_ [] Tryz.func136 Tryz.ntmps136 fun C=>?_
 refine .seq (.rgo [] ?_ ?_ (h:=by simp only[go_sem,seval,h3];rfl))
 ·simp
 refine .seq (.rgo [ab_ (agq_ b h hs),ab_ (ls_ (et_ b) (by omega)),ab_ (gh_ (bw b) (by omega) (by omega))] ?_ ?_ (h:=by simp only[go_sem,seval,h3];rfl))
 ·simp
 refine .ret ⟨.inr rfl,?_⟩
 exact Out.pl (by simp only[Tryz.results136];rfl) (by simp only[ba_,go_sem,seval,h3]<;>(rfl)) (h1:=by simp only[a1_,bn_,go_sem,seval,h3]<;>(split<;>rfl)) (h3:=by simp only[go_sem,seval,h3])
theorem dt_ (a b:Nat):decide (a≤b)=decide ((a:Int)≤(b:Int)):=decide_eq_decide.2 (by omega)
attribute [local go_sem] cp_ in
theorem rc_ (b:Bl) (hs:smb b=true):ACall En 221 [.ag (bC b)] [] [.b (bok b)] []:=by
 obtain⟨s1,s2,s3⟩:=qf_ hs
 refine aa_ [] Tryz.func221 Tryz.ntmps221 fun C=>?_
 refine .seq (.rg [] ?_)
 refine .seq (.rg [] ?_)
 refine .seqJ (fun q:Bool=>⟨[.no,.pt 11 10 0 0,.no,.b q,.no,.no,.no,.no,.no,.no,.no,.no,.no,.no,.no,.no,.no,.no,.no,.no,.no,.no,.no,.no,.no,.no,.no,.no,.no,.no,.no,.no,.no,.no,.no,.no,.no,.no,.no,.no,.no,.no,.no,.no,.no,.no,.no,.no,.no,.no,.no,.no,.no,.no,.no,.no,.no,.no,.no,.no,.no,.no,.no,.no,.no,.no,.no,.no,.no,.no,.no,.no,.no],ae_ [(11,⟨147,10,[bC b]⟩)],us [11]⟩) (fun q:Bool=>q=cx_ b) ?_ (fun q hJ=>?_)
 ·refine .seq (.rg [] ?_)
  refine .block (.seq (.rg [] ?_))
  refine .cB (fun h6=>?_) fun h6=>?_
  ·refine .rg [ab_ (fb_ b.expr s2),ab_ (fb_ b.thn s3)] ?_
   refine⟨cx_ b,?_,?_⟩
   ·rfl
   refine Can.wh ?_;(unfold cx_;simp_all)
  refine .seq (.rg [] ?_)
  refine .cB (fun h21=>?_) fun h21=>?_
  ·refine .rg [ab_ (o7_ b.name s1),ab_ (t0_ b.expr s2),ab_ (fb_ b.thn s3)] ?_
   refine⟨cx_ b,?_,?_⟩
   ·rfl
   refine Can.wh ?_;(unfold cx_;simp_all)
  refine .seq (.rg [] ?_)
  refine .cB (fun h36=>?_) fun h36=>?_
  ·refine .rg [ab_ (t0_ b.expr s2),ab_ (fb_ b.thn s3)] ?_
   refine⟨cx_ b,?_,?_⟩
   ·rfl
   refine Can.wh ?_;(unfold cx_;simp_all)
  refine .seq (.rg [] ?_)
  refine .cB (fun h51=>?_) fun h51=>?_
  ·refine .rg [ab_ (t0_ b.expr s2),ab_ (t0_ b.thn s3)] ?_
   refine⟨cx_ b,?_,?_⟩
   ·rfl
   refine Can.wh ?_;(unfold cx_;simp_all)
  refine .skip ?_
  refine⟨cx_ b,?_,?_⟩
  ·rfl
  refine Can.wh ?_;(unfold cx_;simp_all)
 cases q
 ·refine .seq (.rg [a0_ (cx_ b=true) (fun h=>t4_ b h hs)] ?_)
  refine .ret ⟨.inr rfl,Out.pP Tryz.results221 ?_⟩;rw[bok,←hJ];first|rfl|(rw[Bool.true_and,dt_];rfl)
 refine .seq (.rgo [a0_ (cx_ b=true) (fun h=>t4_ b h hs)] ?_ ?_)
 ·(exact hJ.symm)
 refine .ret ⟨.inr rfl,Out.pP Tryz.results221 ?_⟩;rw[bok,←hJ];first|rfl|(rw[Bool.true_and,dt_];rfl)
theorem amn_ {b:Bl} (h:bok b=true):cx_ b=true:=by simp only[bok,Bool.and_eq_true]at h;exact h.1
def btxt (b:Bl):Str:=if bok b then ap_ (bw b)else []
attribute [local go_sem] cp_ in
theorem agj_ (b:Bl) (hs:smb b=true):ACall En 222 [.ag (bC b)] [] [.s (btxt b)] []:=by
 refine aa_ [] Tryz.func222 Tryz.ntmps222 fun C=>?_
 refine .seq (.rg [] ?_)
 refine .seq (.seq (.rgo [ab_ (rc_ b hs)] ?_ ?_))
 ·simp
 refine .cB (fun h5=>?_) fun h5=>?_
 ·refine .seq (.rg [] ?_)
  refine .ret ⟨.inr rfl,Out.pP Tryz.results222 ?_⟩;simp at h5;simp[btxt,h5]
 refine .skip (.seq (.rgo [a0_ (bok b=true) (fun h=>t4_ b (amn_ h) hs)] ?_ ?_))
 ·simpa using h5
 refine .ret ⟨.inr rfl,Out.pP Tryz.results222 ?_⟩;simp at h5;simp[btxt,h5]
end Go.Proofs.YthjccajoadjicaaGreatDoor
end
section
namespace Go.Proofs.YthjccajoadjicaaGreatDoor
def lvl (e:E):Int:=if e.kind=3 then(if e.s=[60]then 1 else if e.s=[42]then 3 else 2)else 4
theorem xd_ {e:E} (k:e.kind=3) (h:fn_ e.s=true):lvl e=ak_ e.s:=by
 simp only[fn_,Bool.or_eq_true,beq_iff_eq]at h
 unfold lvl
 rw[if_pos k]
 rcases h with((h|h)|h)|h<;>rw[h]<;>decide
theorem rm_ (e:E):ACall En 172 [.ag (eC e)] [] [.i .i64 (lvl e)] []:=by
 refine aa_ [] Tryz.func172 Tryz.ntmps172 fun C=>?_
 refine .seq (.rg [] ?_)
 refine .seq (.seq (.rg [] ?_))
 refine .cB (fun h5=>?_) fun h5=>?_
 ·refine .seq (.rg [] ?_)
  refine .ret ⟨.inr rfl,Out.pP Tryz.results172 ?_⟩;simp at h5;simp[lvl,h5]
 refine .skip (.seq (.seq (.rg [] ?_)))
 refine .block (.seq (.rg [] ?_))
 refine .cB (fun h8=>?_) fun h8=>?_
 ·refine .seq (.rg [] ?_)
  refine .ret ⟨.inr rfl,Out.pP Tryz.results172 ?_⟩;simp at h5 h8;simp[lvl,h5,h8]
 refine .seq (.rg [] ?_)
 refine .cB (fun h10=>?_) fun h10=>?_
 ·refine .seq (.rg [] ?_)
  refine .ret ⟨.inr rfl,Out.pP Tryz.results172 ?_⟩;simp at h5 h8 h10;simp[lvl,h5,h10]
 refine .skip (.seq (.rg [] ?_))
 refine .ret ⟨.inr rfl,Out.pP Tryz.results172 ?_⟩;simp at h5 h8 h10;simp[lvl,h5,h8,h10]
theorem om_ (e:E) (hs:sm e=true):ACall En 246 [.ag (eC e)] [] [.b (pe e)] []:=by
 refine aa_ [] Tryz.func246 Tryz.ntmps246 fun C=>?_
 refine .seq (.rg [] ?_)
 refine .seq (.rgo [ab_ (hf_ e hs),ab_ (ape_ e hs)] ?_ ?_)
 ·simp
 refine .ret ⟨.inr rfl,Out.pP Tryz.results246 ?_⟩;rfl
theorem aq3_ {n:Nat} (h:9<n) (o:Str):Lib.decDigits n++o=Lib.decDigits (n / 10)++(UInt8.ofNat (48+n % 10)::o):=by
 rw[co_ (by omega)];simp
theorem a0t_ {n:Int} (h1:0≤n) (h2:n<256):IntKind.u8.wrap n=n:=by
 simp only[IntKind.wrap,IntKind.signed,IntKind.bits];simp;omega
theorem rw_ (n:Nat):(Lib.decDigits n).length≤n+1:=by
 induction n using Nat.strongRecOn with
 |ind n ih=>
  by_cases h:n<10
  ·rw[Lib.decDigits_one h];simp
  rw[co_ h]
  have:=ih (n / 10) (by omega)
  simp;omega
theorem xy_ (n:Nat) (hn:n<4611686018427387904):ACall En 24 [.i .i64 n] [] [.s (Lib.decDigits n)] []:=by
 refine aa_ [] Tryz.func24 Tryz.ntmps24 fun C=>?_
 refine .seq (.rg [] ?_)
 refine .seq (.seq (.rg [] ?_))
 refine .cB (fun h5=>?_) fun h5=>?_
 ·simp at h5;omega
 refine .skip (.seq (.seq (.rg [] ?_)))
 refine .cB (fun h7=>?_) fun h7=>?_
 ·simp at h7;omega
 refine .skip (.seq (.rg [] ?_))
 refine .seq (.block (.loopK (fun k:Nat × Str=>⟨[.i .i64 k.1,.no,.no,.s k.2,.no,.no,.no,.no,.no,.no,.no,.no,.no,.no,.no,.no,.no,.no,.no,.no,.no,.no,.no,.no,.no,.no,.no,.no,.no,.no,.no],ae_ [],us []⟩) (fun k:Nat × Str=>k.1≤n∧Lib.decDigits n=Lib.decDigits k.1++k.2) (fun k:Nat × Str=>k.1) ((n,[])) ?_ ?_ (fun k hI=>?_)))
 ·simp
 ·refine Can.wh ?_;trivial
 refine .seq (.seq (.rg [] ?_))
 refine .cB (fun h13=>?_) fun h13=>?_
 ·refine .skip (.block (.seq (.rgSo [19] [cvO En] ?_ ?_)))
  ·((have q:=rw_ n;rw[hI.2]at q;simp at q;simp;omega))
  refine .rg [] ?_
  refine Exists.intro ((k.1 / 10,UInt8.ofNat (48+k.1 % 10)::k.2)) ⟨?_,?_,?_⟩
  ·simp at h13;refine⟨by dsimp only;omega,?_⟩;rw[hI.2];exact aq3_ (by omega) _
  ·simp at h13;simp;omega
  refine Can.wh ?_;simp at h13;rw[Int.tdiv_eq_ediv_of_nonneg (by omega),Int.tmod_eq_emod_of_nonneg (by omega),ac_ (by omega) (by omega),ac_ (by omega) (by omega),a0t_ (by omega) (by omega)];refine⟨by omega,?_⟩;rw[show(48+(k.1:Int) % 10).toNat=48+k.1 % 10 by omega]
 refine .exit (.seq (.rgSo [28] [cvO En] ?_ ?_))
 ·((have q:=rw_ n;rw[hI.2]at q;simp at q;simp;omega))
 refine .ret ⟨.inr rfl,Out.pP Tryz.results24 ?_⟩;simp at h13;rw[hI.2,ac_ (by omega) (by omega),a0t_ (by omega) (by omega),Lib.decDigits_one (by omega),show(48+(k.1:Int)).toNat=48+k.1 by omega];rfl
theorem avx_ {n:Int} (h:n<0):Lib.itoa n=45::Lib.decDigits (-n).toNat:=by unfold Lib.itoa;rw[if_pos h,show n.natAbs=(-n).toNat by omega]
theorem hv_ (n:Int) (h1 : -4611686018427387904<n) (h2:n<4611686018427387904):ACall En 24 [.i .i64 n] [] [.s (Lib.itoa n)] []:=by
 by_cases h:0≤n
 ·obtain⟨m,rfl⟩:=Int.eq_ofNat_of_zero_le h
  rw[l1_ h]
  exact xy_ m (by omega)
 have hm:((-n).toNat:Int) = -n:=by omega
 have A:=xy_ (-n).toNat (by omega)
 rw[hm]at A
 have q:=rw_ (-n).toNat
 refine aa_ [] Tryz.func24 Tryz.ntmps24 fun C=>?_
 refine .seq (.rg [] ?_)
 refine .seq (.seq (.rg [] ?_))
 refine .cB (fun h5=>?_) fun h5=>?_
 ·simp at h5;omega
 refine .skip (.seq (.seq (.rg [] ?_)))
 refine .cB (fun h7=>?_) fun h7=>?_
 ·refine .seq (.rgo [ab_ A] ?_ ?_ (h:=by simp only[go_sem,seval,ac_ (show -9223372036854775808≤ -n by omega) (by omega)];rfl))
  ·((rw[Int.zero_sub,ac_ (by omega) (by omega)];omega))
  refine .ret ⟨.inr rfl,Out.pP Tryz.results24 ?_⟩;rw[avx_ (by omega)]
 simp at h7;omega
end Go.Proofs.YthjccajoadjicaaGreatDoor
end
