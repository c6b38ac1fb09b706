/- The plain functions that the Go functions compute. Conditions: none. -/
import Derived.Lib.ItoaMem
import Derived.Lib.AtoiAll
import Derived.Test.YthjccajoadjicaaGreatDoorMc
import Derived.Test.YthjccajoadjicaaGreatDoorProg
import Derived.Lib.LaidTab
set_option linter.unusedVariables false
set_option linter.unusedSimpArgs false
set_option maxRecDepth 100000
set_option maxHeartbeats 8000000
namespace Go.Proofs.YthjccajoadjicaaGreatDoor
section
def ak_ (s:Str):Int:=if s==[60]then 1 else if s==[43]||s==[45]then 2 else if s==[42]then 3 else 0
def ey_ (s:Str):Bool:=s==[105,110,116]||s==[98,111,111,108]
def fn_ (s:Str):Bool:=s==[43]||s==[45]||s==[42]||s==[60]
def jm_ (s:Str):Bool:=s==[108,101,116]||s==[115,97,121]||s==[119,104,101,110]||s==[97,115]||s==[112,114,105,110,116]||s==[105,102]||ey_ s
def cd_ (c:UInt8):Bool:=decide (97≤(c.toNat:Int))&&decide ((c.toNat:Int)≤122)
def b1_ (c:UInt8):Bool:=decide (48≤(c.toNat:Int))&&decide ((c.toNat:Int)≤57)
def e4_ (s:Str):Bool:=s.all cd_&&decide (1≤s.length)&&decide (s.length≤8)
def gi_ (s:Str):Bool:=e4_ s&&!jm_ s
def shape (k n:Int) (s:Str) (m:Nat):Bool:=
 if k==1 then decide (0≤n)&&decide (n≤1000000)&&s.isEmpty&&m==0
 else if k==2 then n==0&&gi_ s&&m==0
 else if k==3 then n==0&&fn_ s&&m==2
 else if k==4 then n==0&&ey_ s&&m==1
 else false
mutual
def form:E→Int→Bool
 |.mk k n s kids,d=>decide (1≤d)&&shape k n s kids.length&&ck_ kids (d - 1)
def ck_:List E→Int→Bool
 |[],_=>true
 |e::r,d=>form e d&&ck_ r d
end
mutual
def many:E→Int→Int
 |.mk _ _ _ kids,d=>1+if 0<d then cg_ kids (d - 1)else 0
def cg_:List E→Int→Int
 |[],_=>0
 |e::r,d=>many e d+cg_ r d
end
mutual
def wlk:E→Int→Int→Bool × Int
 |.mk k n s kids,d,p=>if 5<d∨12<p+1 then(false,p+1)else if shape k n s kids.length then gd_ kids (d+1) (p+1)else(false,p+1)
def gd_:List E→Int→Int→Bool × Int
 |[],_,p=>(true,p)
 |e::r,d,p=>if (wlk e d p).1 then gd_ r d (wlk e d p).2 else(false,(wlk e d p).2)
end
def same:E→E→Bool
 |.mk k n s kids,y=>match y with
  |.mk k' n' s' kids'=>(k==k')&&(n==n')&&(s==s')&&sameL kids kids'
where sameL:List E→List E→Bool
 |[],[]=>true
 |x::r,y::t=>same x y&&sameL r t
 |_,_=>false
theorem t8_ (x y:E):same x y=((x.kind==y.kind)&&(x.n==y.n)&&(x.s==y.s)&&same.sameL x.kids y.kids):=by
 cases x;cases y;simp only[same,E.kind,E.n,E.s,E.kids]
mutual
def bare:E→E
 |.mk k n s kids=>if k=4 then afe_ kids (.mk k n s [])else .mk k n s (ek_ kids)
def afe_:List E→E→E
 |[],d=>d
 |e::_,_=>bare e
def ek_:List E→List E
 |[]=>[]
 |e::r=>bare e::ek_ r
end
abbrev Wd:=List (Str × Int)
mutual
def cnt:E→Int
 |.mk k _ _ kids=>if k=4 then xp_ kids else 1+xp_ kids
def xp_:List E→Int
 |[]=>0
 |e::r=>cnt e+xp_ r
end
def brk (b:Bool) (l:Wd):Wd:=if b then([40], -1)::(l++[([41], -1)])else l
mutual
def src:E→Int→Int→Wd
 |.mk k n s kids,must,nx=>
  if k=1 then [(Go.Lib.decDigits n.toNat,nx)]
  else if k=2 then [(s,nx)]
  else if k=3 then brk (decide (ak_ s<must)) (srcA kids (max 2 (ak_ s)) (nx+1)++(s,nx)::srcB kids (ak_ s+1) (nx+1))
  else if k=4 then srcA kids 4 nx++[([97,115], -1),(s, -1)]
  else []
def srcA:List E→Int→Int→Wd
 |[],_,_=>[]
 |e::_,must,nx=>src e must nx
def srcB:List E→Int→Int→Wd
 |[],_,_=>[]
 |e::r,must,nx=>srcA r must (nx+cnt e)
end
def wds (e:E) (must:Int):List Str:=(src e must 0).map (·.1)
def ap_ (l:List Str):Str:=[(32:UInt8)].intercalate l
def bh_ (l:List Str) (s:Str):Int:=if s∈l then(l.idxOf s:Int)else -1
end
section
open Go.Lib
def gx_ (a:Nat) (c:UInt8):Nat:=a * 10+(c.toNat - 48)
def am_ (l:Str):Nat:=l.foldl gx_ 0
def a8_ (l:Str):Bool:=decide (am_ l≤1000000)&&(decDigits (am_ l)==l)
def gk_ (c:UInt8):Prop:=48≤c.toNat∧c.toNat≤57
theorem vb_ {d:Nat} (h:d<10):(UInt8.ofNat (48+d)).toNat=48+d:=by
 rw[UInt8.toNat_ofNat'];omega
theorem co_ {n:Nat} (h:¬n<10):decDigits n=decDigits (n / 10)++[UInt8.ofNat (48+n % 10)]:=by
 rw[decDigits,dif_neg h]
theorem c6_:∀n:Nat,∀c∈decDigits n,gk_ c:=by
 intro n
 induction n using Nat.strongRecOn with
 |ind n ih=>
  intro c hc
  by_cases h:n<10
  ·rw[decDigits_one h]at hc
   simp only[List.mem_singleton]at hc
   subst hc;unfold gk_;rw[vb_ h];omega
  rw[co_ h]at hc
  rcases List.mem_append.1 hc with hc|hc
  ·exact ih _ (by omega) c hc
  simp only[List.mem_singleton]at hc
  subst hc;unfold gk_;rw[vb_ (by omega)];omega
theorem ju_ (l:Str) (c:UInt8):am_ (l++[c])=am_ l * 10+(c.toNat - 48):=by simp[am_,gx_]
theorem d1_ (n:Nat):am_ (decDigits n)=n:=by
 induction n using Nat.strongRecOn with
 |ind n ih=>
  by_cases h:n<10
  ·rw[decDigits_one h]
   show 0 * 10+((UInt8.ofNat (48+n)).toNat - 48)=n
   rw[vb_ h];omega
  rw[co_ h,ju_,ih _ (by omega),vb_ (by omega)];omega
theorem fd_ (n:Nat):decDigits n≠[]:=by
 by_cases h:n<10
 ·rw[decDigits_one h];simp
 rw[co_ h];simp
theorem ag6_:∀(l:Str) (a:Nat),a≤l.foldl gx_ a
 |[],a=>Nat.le_refl _
 |c::r,a=>Nat.le_trans (by unfold gx_;omega) (ag6_ r (gx_ a c))
theorem o4_:∀(l:Str) (a:Nat),(∀c∈l,gk_ c)→l.foldl gx_ a≤1000000→parseUint10 a l = .ok (l.foldl gx_ a)
 |[],a,_,_=>rfl
 |c::r,a,h,hl=>by
  have hc:=h c (by simp)
  have h1:=ag6_ r (gx_ a c)
  have h2:gx_ a c≤1000000:=Nat.le_trans h1 hl
  unfold gk_ at hc
  rw[parseUint10,if_pos hc,if_neg (by unfold gx_ at h2;omega),if_neg (by unfold gx_ at h2;omega)]
  exact o4_ r _ (fun x hx=>h x (by simp[hx])) hl
theorem i4_ {n:Nat} (h:n≤1000000):atoiAll (decDigits n) = .ok (n:Int):=by
 have hd:=c6_ n
 have hv:=d1_ n
 cases hl:decDigits n with
 |nil=>exact absurd hl (fd_ n)
 |cons c r=>
  rw[hl]at hd hv
  have hc:=hd c (by simp)
  unfold gk_ at hc
  have hp:parseMag (c::r) = .ok n:=by
   unfold parseMag
   rw[if_neg (by simp),o4_ _ _ hd (by unfold am_ at hv;omega)]
   exact congrArg _ hv
  simp only[atoiAll]
  rw[if_neg (by omega),hp]
  simp only[]
  rw[if_neg (by omega),if_neg (by omega),if_neg (by omega)]
theorem do_ {l:Str}:a8_ l=true↔∃n:Nat,n≤1000000∧l=decDigits n:=by
 unfold a8_
 simp only[Bool.and_eq_true,decide_eq_true_eq,beq_iff_eq]
 constructor
 ·rintro⟨h,k⟩;exact⟨_,h,k.symm⟩
 rintro⟨n,h,rfl⟩;rw[d1_];exact⟨h,rfl⟩
theorem ayj_ {l:Str} {v:Int} (h:atoiAll l = .ok v):(decide (0≤v)&&decide (v≤1000000)&&(itoa v==l))=a8_ l:=by
 rw[Bool.eq_iff_iff,do_]
 simp only[Bool.and_eq_true,decide_eq_true_eq,beq_iff_eq]
 constructor
 ·rintro⟨⟨h0,h1⟩,h2⟩
  refine⟨v.toNat,by omega,?_⟩
  rw[←h2,←itoa_nonneg,Int.toNat_of_nonneg h0]
 rintro⟨n,hn,rfl⟩
 rw[i4_ hn]at h
 injection h with h
 subst h
 exact⟨⟨by omega,by omega⟩,itoa_nonneg n⟩
theorem avo_ {l:Str} {v:Int} (h:atoiAll l = .ok v) (k:a8_ l=true):v=am_ l:=by
 obtain⟨n,hn,rfl⟩:=do_.1 k
 rw[i4_ hn]at h
 injection h with h
 rw[d1_,h]
theorem atz_ {l:Str} (h:∀v,atoiAll l≠.ok v):a8_ l=false:=by
 rw[Bool.eq_false_iff]
 intro k
 obtain⟨n,hn,rfl⟩:=do_.1 k
 exact h _ (i4_ hn)
def f7_ (l:Str):Int × Bool:=
 let neg:=l.head?==some 45
 let r:=if neg then l.tail else l
 if r.length=0∨17<r.length∨(r.head? = some 48∧(1<r.length∨neg=true))then(0,false)
 else if r.all b1_ then(if neg then -(am_ r:Int)else am_ r,true)else(0,false)
theorem nd_ (c:UInt8):b1_ c=true↔gk_ c:=by
 unfold b1_ gk_;simp only[Bool.and_eq_true,decide_eq_true_eq];omega
theorem lead {l:Str}:l≠[]→(∀c∈l,gk_ c)→l.head?≠some 48→1≤am_ l∧decDigits (am_ l)=l:=by
 suffices H:∀(k:Nat) (l:Str),l.length=k→l≠[]→(∀c∈l,gk_ c)→l.head?≠some 48→1≤am_ l∧decDigits (am_ l)=l from H _ l rfl
 intro k
 induction k with
 |zero=>intro l h hne;exact absurd (List.eq_nil_of_length_eq_zero h) hne
 |succ k ih=>
  intro l hk hne hd hh
  obtain⟨i,c,rfl⟩:∃i c,l=i++[c]:=⟨l.dropLast,l.getLast hne,(List.dropLast_concat_getLast hne).symm⟩
  have hc:=hd c (by simp)
  have hcc:=hc
  unfold gk_ at hc
  have hcn:UInt8.ofNat (48+(c.toNat - 48))=c:=by
   rw[show 48+(c.toNat - 48)=c.toNat from by omega];exact UInt8.ofNat_toNat
  rw[ju_]
  cases i with
  |nil=>
   have h0:c≠48:=fun e=>hh (by simp[e])
   have h1:c.toNat≠48:=fun e=>h0 (by rw[←UInt8.ofNat_toNat (x:=c),e];rfl)
   simp only[am_,List.foldl_nil,Nat.zero_mul,Nat.zero_add,List.nil_append]
   exact⟨by omega,by rw[decDigits_one (by omega),hcn]⟩
  |cons x r=>
   obtain⟨h1,h2⟩:=ih (x::r) (by simpa using hk) (by simp) (fun y hy=>hd y (List.mem_append_left _ hy)) (by simpa using hh)
   refine⟨by omega,?_⟩
   rw[co_ (by omega),show(am_ (x::r) * 10+(c.toNat - 48)) / 10=am_ (x::r)from by omega,h2,
    show(am_ (x::r) * 10+(c.toNat - 48)) % 10=c.toNat - 48 from by omega,hcn]
end
section
open Go.RowKit
def ownW:List Str:=[[108,101,116],[115,97,121],[119,104,101,110],[97,115],[112,114,105,110,116],[105,102],[105,110,116],[98,111,111,108]]
def ai_ (l:List Str):List (List V):=l.map fun s=>[.s s]
theorem af_ (l:List Str):(ai_ l).length=l.length:=by simp[ai_]
theorem an_ {l:List Str} {k:Nat} (h:k<l.length):(ai_ l).getD k []=[.s (l.getD k [])]:=by
 simp[ai_,List.getD_eq_getElem?_getD,List.getElem?_eq_getElem h]
theorem ah_:∀l:List Str,bg_ (ai_ l)=true
 |[]=>rfl
 |s::l=>by simp only[ai_,List.map_cons,bg_,bu_,V.pure,Bool.true_and];exact ah_ l
structure Gl (B:Nat) (w:World):Prop where
 tab:Lib.TabIs Tryz.prog w "internal/strconv.uint64pow10" .u64 Lib.pow10Tab
 syn:∃tp p,w.var? Tryz.prog "strconv.ErrSyntax" = some #[.iface tp p]
 rng:∃tp p,w.var? Tryz.prog "strconv.ErrRange" = some #[.iface tp p]
 maxl:∃m:Int,w.cell? ⟨0,0,none⟩=some (.int .i64 m)
 many:6<B∧4<B∧5<B∧0<B
theorem q1_ {P:Program} {B g:Nat} {W W':World} {n:String} {cs:Array Value} (h:∀g,g<B→W'.heap[g]? = W.heap[g]?) (hg:P.globalNamed n=some g) (hgB:g<B) (hv:W.var? P n=some cs):W'.var? P n=some cs:=by
 unfold World.var? at hv ⊢
 simp only[hg,Option.bind_some]at hv ⊢
 rw[h g hgB]
 exact hv
theorem gTab:Tryz.prog.globalNamed "internal/strconv.uint64pow10" = some 6:=by kernel_rfl
theorem gSyn:Tryz.prog.globalNamed "strconv.ErrSyntax" = some 4:=by kernel_rfl
theorem gRng:Tryz.prog.globalNamed "strconv.ErrRange" = some 5:=by kernel_rfl
theorem Gl.same {B:Nat} {w w':World} (h:Gl B w) (hb:∀g,g<B→w'.heap[g]? = w.heap[g]?):Gl B w':=by
 obtain⟨m1,m2,m3,m4⟩:=h.many
 obtain⟨m,hm⟩:=h.maxl
 obtain⟨t1,p1,s1⟩:=h.syn
 obtain⟨t2,p2,s2⟩:=h.rng
 exact⟨q1_ hb gTab m1 h.tab,⟨t1,p1,q1_ hb gSyn m2 s1⟩,⟨t2,p2,q1_ hb gRng m3 s2⟩,⟨m,by unfold World.cell? at hm ⊢;rw[hb _ m4];exact hm⟩,h.many⟩
noncomputable def En:Env:=⟨Tryz.prog,fun g=>if g=1 then some [.sl false (ai_ ownW)]else none,Gl,fun _ _ _ h hb=>h.same hb⟩
theorem a23_:En.G 1=some [.sl false (ai_ ownW)]:=rfl
theorem enM:En.P.follows .mixedOrders=true:=by kernel_rfl
end
section
theorem ty2:ax_ En.P 2=some ⟨TK.int IntKind.i64,1,V.i IntKind.i64 (0)⟩:=by kernel_rfl
theorem zo2:aq_ En.P 2=V.i IntKind.i64 (0):=by kernel_rfl
theorem ty3:ax_ En.P 3=some ⟨TK.int IntKind.i64,1,V.i IntKind.i64 (0)⟩:=by kernel_rfl
theorem zo3:aq_ En.P 3=V.i IntKind.i64 (0):=by kernel_rfl
theorem ty4:ax_ En.P 4=some ⟨TK.bool,1,V.b false⟩:=by kernel_rfl
theorem zo4:aq_ En.P 4=V.b false:=by kernel_rfl
theorem ty5:ax_ En.P 5=some ⟨TK.int IntKind.u8,1,V.i IntKind.u8 (0)⟩:=by kernel_rfl
theorem zo5:aq_ En.P 5=V.i IntKind.u8 (0):=by kernel_rfl
theorem ty6:ax_ En.P 6=some ⟨TK.int IntKind.u8,1,V.i IntKind.u8 (0)⟩:=by kernel_rfl
theorem zo6:aq_ En.P 6=V.i IntKind.u8 (0):=by kernel_rfl
theorem ty7:ax_ En.P 7=some ⟨TK.st [(0,1,false),(1,1,false),(2,1,false),(3,1,false)],4,V.ag [V.i IntKind.i64 (0),V.i IntKind.i64 (0),V.b false,V.i IntKind.u8 (0)]⟩:=by kernel_rfl
theorem zo7:aq_ En.P 7=V.ag [V.i IntKind.i64 (0),V.i IntKind.i64 (0),V.b false,V.i IntKind.u8 (0)]:=by kernel_rfl
theorem ty8:ax_ En.P 8=some ⟨TK.st [(0,1,false),(1,1,false),(2,1,false),(3,1,false)],4,V.ag [V.i IntKind.i64 (0),V.i IntKind.i64 (0),V.b false,V.i IntKind.u8 (0)]⟩:=by kernel_rfl
theorem zo8:aq_ En.P 8=V.ag [V.i IntKind.i64 (0),V.i IntKind.i64 (0),V.b false,V.i IntKind.u8 (0)]:=by kernel_rfl
theorem ty9:ax_ En.P 9=some ⟨TK.str,1,V.s []⟩:=by kernel_rfl
theorem zo9:aq_ En.P 9=V.s []:=by kernel_rfl
theorem ty10:ax_ En.P 10=some ⟨TK.str,1,V.s []⟩:=by kernel_rfl
theorem zo10:aq_ En.P 10=V.s []:=by kernel_rfl
theorem ty11:ax_ En.P 11=some ⟨TK.str,1,V.s []⟩:=by kernel_rfl
theorem zo11:aq_ En.P 11=V.s []:=by kernel_rfl
theorem ty12:ax_ En.P 12=some ⟨TK.int IntKind.u64,1,V.i IntKind.u64 (0)⟩:=by kernel_rfl
theorem zo12:aq_ En.P 12=V.i IntKind.u64 (0):=by kernel_rfl
theorem ty13:ax_ En.P 13=some ⟨TK.st [(0,1,false),(1,1,false)],2,V.ag [V.s [],V.i IntKind.u64 (0)]⟩:=by kernel_rfl
theorem zo13:aq_ En.P 13=V.ag [V.s [],V.i IntKind.u64 (0)]:=by kernel_rfl
theorem ty14:ax_ En.P 14=some ⟨TK.st [(0,1,false),(1,1,false)],2,V.ag [V.s [],V.i IntKind.u64 (0)]⟩:=by kernel_rfl
theorem zo14:aq_ En.P 14=V.ag [V.s [],V.i IntKind.u64 (0)]:=by kernel_rfl
theorem ty15:ax_ En.P 15=some ⟨TK.other,1,V.np⟩:=by kernel_rfl
theorem zo15:aq_ En.P 15=V.np:=by kernel_rfl
theorem ty16:ax_ En.P 16=some ⟨TK.other,1,V.np⟩:=by kernel_rfl
theorem zo16:aq_ En.P 16=V.np:=by kernel_rfl
theorem ty17:ax_ En.P 17=some ⟨TK.other,1,V.np⟩:=by kernel_rfl
theorem zo17:aq_ En.P 17=V.np:=by kernel_rfl
theorem ty18:ax_ En.P 18=some ⟨TK.st [(0,1,false)],1,V.ag [V.np]⟩:=by kernel_rfl
theorem zo18:aq_ En.P 18=V.ag [V.np]:=by kernel_rfl
theorem ty19:ax_ En.P 19=some ⟨TK.st [(0,1,false)],1,V.ag [V.np]⟩:=by kernel_rfl
theorem zo19:aq_ En.P 19=V.ag [V.np]:=by kernel_rfl
theorem ty21:ax_ En.P 21=some ⟨TK.int IntKind.i32,1,V.i IntKind.i32 (0)⟩:=by kernel_rfl
theorem zo21:aq_ En.P 21=V.i IntKind.i32 (0):=by kernel_rfl
theorem ty24:ax_ En.P 24=some ⟨TK.sl 5 1 1 [V.i IntKind.u8 (0)],1,V.sl true []⟩:=by kernel_rfl
theorem zo24:aq_ En.P 24=V.sl true []:=by kernel_rfl
theorem ty27:ax_ En.P 27=some ⟨TK.sl 67 4 64 [V.s [],V.b false,V.s [],V.sl true []],1,V.sl true []⟩:=by kernel_rfl
theorem zo27:aq_ En.P 27=V.sl true []:=by kernel_rfl
theorem ty29:ax_ En.P 29=some ⟨TK.sl 9 1 16 [V.s []],1,V.sl true []⟩:=by kernel_rfl
theorem zo29:aq_ En.P 29=V.sl true []:=by kernel_rfl
theorem ty34:ax_ En.P 34=some ⟨TK.other,1,V.np⟩:=by kernel_rfl
theorem zo34:aq_ En.P 34=V.np:=by kernel_rfl
theorem ty35:ax_ En.P 35=some ⟨TK.st [(0,1,false)],1,V.ag [V.sl true []]⟩:=by kernel_rfl
theorem zo35:aq_ En.P 35=V.ag [V.sl true []]:=by kernel_rfl
theorem ty36:ax_ En.P 36=some ⟨TK.st [(0,1,false)],1,V.ag [V.sl true []]⟩:=by kernel_rfl
theorem zo36:aq_ En.P 36=V.ag [V.sl true []]:=by kernel_rfl
theorem ty37:ax_ En.P 37=some ⟨TK.other,1,V.np⟩:=by kernel_rfl
theorem zo37:aq_ En.P 37=V.np:=by kernel_rfl
theorem ty38:ax_ En.P 38=some ⟨TK.st [(0,1,false),(1,1,false)],2,V.ag [V.np,V.sl true []]⟩:=by kernel_rfl
theorem zo38:aq_ En.P 38=V.ag [V.np,V.sl true []]:=by kernel_rfl
theorem ty39:ax_ En.P 39=some ⟨TK.st [(0,1,false),(1,1,false)],2,V.ag [V.np,V.sl true []]⟩:=by kernel_rfl
theorem zo39:aq_ En.P 39=V.ag [V.np,V.sl true []]:=by kernel_rfl
theorem ty49:ax_ En.P 49=some ⟨TK.other,1,V.np⟩:=by kernel_rfl
theorem zo49:aq_ En.P 49=V.np:=by kernel_rfl
theorem ty51:ax_ En.P 51=some ⟨TK.sl 58 11 152 [V.i IntKind.i64 (0),V.s [],V.s [],V.i IntKind.i64 (0),V.i IntKind.i64 (0),V.s [],V.sl true [],V.i IntKind.i64 (0),V.i IntKind.i64 (0),V.s [],V.sl true []],1,V.sl true []⟩:=by kernel_rfl
theorem zo51:aq_ En.P 51=V.sl true []:=by kernel_rfl
theorem ty54:ax_ En.P 54=some ⟨TK.sl 56 4 56 [V.i IntKind.i64 (0),V.i IntKind.i64 (0),V.s [],V.sl true []],1,V.sl true []⟩:=by kernel_rfl
theorem zo54:aq_ En.P 54=V.sl true []:=by kernel_rfl
theorem ty55:ax_ En.P 55=some ⟨TK.st [(0,1,false),(1,1,false),(2,1,false),(3,1,false)],4,V.ag [V.i IntKind.i64 (0),V.i IntKind.i64 (0),V.s [],V.sl true []]⟩:=by kernel_rfl
theorem zo55:aq_ En.P 55=V.ag [V.i IntKind.i64 (0),V.i IntKind.i64 (0),V.s [],V.sl true []]:=by kernel_rfl
theorem ty56:ax_ En.P 56=some ⟨TK.st [(0,1,false),(1,1,false),(2,1,false),(3,1,false)],4,V.ag [V.i IntKind.i64 (0),V.i IntKind.i64 (0),V.s [],V.sl true []]⟩:=by kernel_rfl
theorem zo56:aq_ En.P 56=V.ag [V.i IntKind.i64 (0),V.i IntKind.i64 (0),V.s [],V.sl true []]:=by kernel_rfl
theorem ty57:ax_ En.P 57=some ⟨TK.st [(0,1,false),(1,1,false),(2,1,false),(3,4,true),(7,4,true)],11,V.ag [V.i IntKind.i64 (0),V.s [],V.s [],V.i IntKind.i64 (0),V.i IntKind.i64 (0),V.s [],V.sl true [],V.i IntKind.i64 (0),V.i IntKind.i64 (0),V.s [],V.sl true []]⟩:=by kernel_rfl
theorem zo57:aq_ En.P 57=V.ag [V.i IntKind.i64 (0),V.s [],V.s [],V.i IntKind.i64 (0),V.i IntKind.i64 (0),V.s [],V.sl true [],V.i IntKind.i64 (0),V.i IntKind.i64 (0),V.s [],V.sl true []]:=by kernel_rfl
theorem ty58:ax_ En.P 58=some ⟨TK.st [(0,1,false),(1,1,false),(2,1,false),(3,4,true),(7,4,true)],11,V.ag [V.i IntKind.i64 (0),V.s [],V.s [],V.i IntKind.i64 (0),V.i IntKind.i64 (0),V.s [],V.sl true [],V.i IntKind.i64 (0),V.i IntKind.i64 (0),V.s [],V.sl true []]⟩:=by kernel_rfl
theorem zo58:aq_ En.P 58=V.ag [V.i IntKind.i64 (0),V.s [],V.s [],V.i IntKind.i64 (0),V.i IntKind.i64 (0),V.s [],V.sl true [],V.i IntKind.i64 (0),V.i IntKind.i64 (0),V.s [],V.sl true []]:=by kernel_rfl
theorem ty65:ax_ En.P 65=some ⟨TK.sl 3 1 8 [V.i IntKind.i64 (0)],1,V.sl true []⟩:=by kernel_rfl
theorem zo65:aq_ En.P 65=V.sl true []:=by kernel_rfl
theorem ty66:ax_ En.P 66=some ⟨TK.st [(0,1,false),(1,1,false),(2,1,false),(3,1,false)],4,V.ag [V.s [],V.b false,V.s [],V.sl true []]⟩:=by kernel_rfl
theorem zo66:aq_ En.P 66=V.ag [V.s [],V.b false,V.s [],V.sl true []]:=by kernel_rfl
theorem ty67:ax_ En.P 67=some ⟨TK.st [(0,1,false),(1,1,false),(2,1,false),(3,1,false)],4,V.ag [V.s [],V.b false,V.s [],V.sl true []]⟩:=by kernel_rfl
theorem zo67:aq_ En.P 67=V.ag [V.s [],V.b false,V.s [],V.sl true []]:=by kernel_rfl
theorem ty79:ax_ En.P 79=some ⟨TK.st [(0,1,false),(1,1,false)],2,V.ag [V.i IntKind.i64 (0),V.i IntKind.i64 (0)]⟩:=by kernel_rfl
theorem zo79:aq_ En.P 79=V.ag [V.i IntKind.i64 (0),V.i IntKind.i64 (0)]:=by kernel_rfl
theorem ty80:ax_ En.P 80=some ⟨TK.st [(0,1,false),(1,1,false)],2,V.ag [V.i IntKind.i64 (0),V.i IntKind.i64 (0)]⟩:=by kernel_rfl
theorem zo80:aq_ En.P 80=V.ag [V.i IntKind.i64 (0),V.i IntKind.i64 (0)]:=by kernel_rfl
theorem ty81:ax_ En.P 81=some ⟨TK.other,1,V.np⟩:=by kernel_rfl
theorem zo81:aq_ En.P 81=V.np:=by kernel_rfl
theorem ty82:ax_ En.P 82=some ⟨TK.st [(0,1,false),(1,1,false)],2,V.ag [V.sl true [],V.i IntKind.i64 (0)]⟩:=by kernel_rfl
theorem zo82:aq_ En.P 82=V.ag [V.sl true [],V.i IntKind.i64 (0)]:=by kernel_rfl
theorem ty83:ax_ En.P 83=some ⟨TK.st [(0,1,false),(1,1,false)],2,V.ag [V.sl true [],V.i IntKind.i64 (0)]⟩:=by kernel_rfl
theorem zo83:aq_ En.P 83=V.ag [V.sl true [],V.i IntKind.i64 (0)]:=by kernel_rfl
theorem ty97:ax_ En.P 97=some ⟨TK.sl 138 4 32 [V.i IntKind.i64 (0),V.i IntKind.i64 (0),V.i IntKind.i64 (0),V.i IntKind.i64 (0)],1,V.sl true []⟩:=by kernel_rfl
theorem zo97:aq_ En.P 97=V.sl true []:=by kernel_rfl
theorem a3w_:ax_ En.P 108=some ⟨TK.other,1,V.np⟩:=by kernel_rfl
theorem a4c_:aq_ En.P 108=V.np:=by kernel_rfl
theorem a51_:ax_ En.P 120=some ⟨TK.sl 80 2 16 [V.i IntKind.i64 (0),V.i IntKind.i64 (0)],1,V.sl true []⟩:=by kernel_rfl
theorem a5v_:aq_ En.P 120=V.sl true []:=by kernel_rfl
theorem a4x_:ax_ En.P 129=some ⟨TK.sl 133 2 24 [V.s [],V.i IntKind.i64 (0)],1,V.sl true []⟩:=by kernel_rfl
theorem a4j_:aq_ En.P 129=V.sl true []:=by kernel_rfl
theorem a5m_:ax_ En.P 132=some ⟨TK.st [(0,1,false),(1,1,false)],2,V.ag [V.s [],V.i IntKind.i64 (0)]⟩:=by kernel_rfl
theorem a4r_:aq_ En.P 132=V.ag [V.s [],V.i IntKind.i64 (0)]:=by kernel_rfl
theorem a4d_:ax_ En.P 133=some ⟨TK.st [(0,1,false),(1,1,false)],2,V.ag [V.s [],V.i IntKind.i64 (0)]⟩:=by kernel_rfl
theorem a5n_:aq_ En.P 133=V.ag [V.s [],V.i IntKind.i64 (0)]:=by kernel_rfl
theorem a4n_:ax_ En.P 137=some ⟨TK.st [(0,2,true),(2,2,true)],4,V.ag [V.i IntKind.i64 (0),V.i IntKind.i64 (0),V.i IntKind.i64 (0),V.i IntKind.i64 (0)]⟩:=by kernel_rfl
theorem a34_:aq_ En.P 137=V.ag [V.i IntKind.i64 (0),V.i IntKind.i64 (0),V.i IntKind.i64 (0),V.i IntKind.i64 (0)]:=by kernel_rfl
theorem a55_:ax_ En.P 138=some ⟨TK.st [(0,2,true),(2,2,true)],4,V.ag [V.i IntKind.i64 (0),V.i IntKind.i64 (0),V.i IntKind.i64 (0),V.i IntKind.i64 (0)]⟩:=by kernel_rfl
theorem a5l_:aq_ En.P 138=V.ag [V.i IntKind.i64 (0),V.i IntKind.i64 (0),V.i IntKind.i64 (0),V.i IntKind.i64 (0)]:=by kernel_rfl
theorem a48_:ax_ En.P 140=some ⟨TK.sl 144 3 32 [V.i IntKind.i64 (0),V.s [],V.i IntKind.i64 (0)],1,V.sl true []⟩:=by kernel_rfl
theorem a6a_:aq_ En.P 140=V.sl true []:=by kernel_rfl
theorem a40_:ax_ En.P 143=some ⟨TK.st [(0,1,false),(1,1,false),(2,1,false)],3,V.ag [V.i IntKind.i64 (0),V.s [],V.i IntKind.i64 (0)]⟩:=by kernel_rfl
theorem a4g_:aq_ En.P 143=V.ag [V.i IntKind.i64 (0),V.s [],V.i IntKind.i64 (0)]:=by kernel_rfl
theorem a4b_:ax_ En.P 144=some ⟨TK.st [(0,1,false),(1,1,false),(2,1,false)],3,V.ag [V.i IntKind.i64 (0),V.s [],V.i IntKind.i64 (0)]⟩:=by kernel_rfl
theorem a5d_:aq_ En.P 144=V.ag [V.i IntKind.i64 (0),V.s [],V.i IntKind.i64 (0)]:=by kernel_rfl
theorem a3u_:ax_ En.P 145=some ⟨TK.sl 147 10 136 [V.i IntKind.i64 (0),V.s [],V.i IntKind.i64 (0),V.i IntKind.i64 (0),V.s [],V.sl true [],V.i IntKind.i64 (0),V.i IntKind.i64 (0),V.s [],V.sl true []],1,V.sl true []⟩:=by kernel_rfl
theorem a5x_:aq_ En.P 145=V.sl true []:=by kernel_rfl
theorem a5z_:ax_ En.P 146=some ⟨TK.st [(0,1,false),(1,1,false),(2,4,true),(6,4,true)],10,V.ag [V.i IntKind.i64 (0),V.s [],V.i IntKind.i64 (0),V.i IntKind.i64 (0),V.s [],V.sl true [],V.i IntKind.i64 (0),V.i IntKind.i64 (0),V.s [],V.sl true []]⟩:=by kernel_rfl
theorem a5a_:aq_ En.P 146=V.ag [V.i IntKind.i64 (0),V.s [],V.i IntKind.i64 (0),V.i IntKind.i64 (0),V.s [],V.sl true [],V.i IntKind.i64 (0),V.i IntKind.i64 (0),V.s [],V.sl true []]:=by kernel_rfl
theorem a4w_:ax_ En.P 147=some ⟨TK.st [(0,1,false),(1,1,false),(2,4,true),(6,4,true)],10,V.ag [V.i IntKind.i64 (0),V.s [],V.i IntKind.i64 (0),V.i IntKind.i64 (0),V.s [],V.sl true [],V.i IntKind.i64 (0),V.i IntKind.i64 (0),V.s [],V.sl true []]⟩:=by kernel_rfl
theorem a5q_:aq_ En.P 147=V.ag [V.i IntKind.i64 (0),V.s [],V.i IntKind.i64 (0),V.i IntKind.i64 (0),V.s [],V.sl true [],V.i IntKind.i64 (0),V.i IntKind.i64 (0),V.s [],V.sl true []]:=by kernel_rfl
theorem a3s_:ax_ En.P 154=some ⟨TK.sl 158 2 24 [V.s [],V.i IntKind.i64 (0)],1,V.sl true []⟩:=by kernel_rfl
theorem a5s_:aq_ En.P 154=V.sl true []:=by kernel_rfl
theorem a5g_:ax_ En.P 157=some ⟨TK.st [(0,1,false),(1,1,false)],2,V.ag [V.s [],V.i IntKind.i64 (0)]⟩:=by kernel_rfl
theorem a4e_:aq_ En.P 157=V.ag [V.s [],V.i IntKind.i64 (0)]:=by kernel_rfl
theorem a6k_:ax_ En.P 158=some ⟨TK.st [(0,1,false),(1,1,false)],2,V.ag [V.s [],V.i IntKind.i64 (0)]⟩:=by kernel_rfl
theorem a6e_:aq_ En.P 158=V.ag [V.s [],V.i IntKind.i64 (0)]:=by kernel_rfl
theorem a46_:ax_ En.P 201=some ⟨TK.other,1,V.np⟩:=by kernel_rfl
theorem a6o_:aq_ En.P 201=V.np:=by kernel_rfl
theorem a6u_:ax_ En.P 204=some ⟨TK.int IntKind.u64,1,V.i IntKind.u64 (0)⟩:=by kernel_rfl
theorem a6r_:aq_ En.P 204=V.i IntKind.u64 (0):=by kernel_rfl
theorem a38_:ax_ En.P 207=some ⟨TK.sl 27 1 24 [V.sl true []],1,V.sl true []⟩:=by kernel_rfl
theorem a4h_:aq_ En.P 207=V.sl true []:=by kernel_rfl
theorem a5j_:ax_ En.P 213=some ⟨TK.int IntKind.i64,1,V.i IntKind.i64 (0)⟩:=by kernel_rfl
theorem a53_:aq_ En.P 213=V.i IntKind.i64 (0):=by kernel_rfl
theorem a6s_:ax_ En.P 216=some ⟨TK.other,1,V.np⟩:=by kernel_rfl
theorem a5c_:aq_ En.P 216=V.np:=by kernel_rfl
theorem a44_:ax_ En.P 234=some ⟨TK.other,1,V.np⟩:=by kernel_rfl
theorem a5y_:aq_ En.P 234=V.np:=by kernel_rfl
theorem a3q_:ax_ En.P 235=some ⟨TK.st [(0,1,false),(1,1,false),(2,1,false)],3,V.ag [V.sl true [],V.b false,V.i IntKind.i64 (0)]⟩:=by kernel_rfl
theorem a4l_:aq_ En.P 235=V.ag [V.sl true [],V.b false,V.i IntKind.i64 (0)]:=by kernel_rfl
theorem a43_:ax_ En.P 236=some ⟨TK.st [(0,1,false),(1,1,false),(2,1,false)],3,V.ag [V.sl true [],V.b false,V.i IntKind.i64 (0)]⟩:=by kernel_rfl
theorem a4m_:aq_ En.P 236=V.ag [V.sl true [],V.b false,V.i IntKind.i64 (0)]:=by kernel_rfl
theorem a54_:ax_ En.P 243=some ⟨TK.st [(0,1,false),(1,1,false)],2,V.ag [V.i IntKind.u8 (0),V.i IntKind.u8 (0)]⟩:=by kernel_rfl
theorem a5f_:aq_ En.P 243=V.ag [V.i IntKind.u8 (0),V.i IntKind.u8 (0)]:=by kernel_rfl
theorem a32_:ax_ En.P 244=some ⟨TK.st [(0,1,false),(1,1,false)],2,V.ag [V.i IntKind.u8 (0),V.i IntKind.u8 (0)]⟩:=by kernel_rfl
theorem a31_:aq_ En.P 244=V.ag [V.i IntKind.u8 (0),V.i IntKind.u8 (0)]:=by kernel_rfl
theorem a5r_:ax_ En.P 246=some ⟨TK.int IntKind.u32,1,V.i IntKind.u32 (0)⟩:=by kernel_rfl
theorem a5i_:aq_ En.P 246=V.i IntKind.u32 (0):=by kernel_rfl
theorem a4t_:ax_ En.P 257=some ⟨TK.int IntKind.u64,1,V.i IntKind.u64 (0)⟩:=by kernel_rfl
theorem a4i_:aq_ En.P 257=V.i IntKind.u64 (0):=by kernel_rfl
theorem a5w_:ax_ En.P 275=some ⟨TK.other,1,V.np⟩:=by kernel_rfl
theorem a5u_:aq_ En.P 275=V.np:=by kernel_rfl
theorem a5e_:ax_ En.P 276=some ⟨TK.st [(0,1,false)],1,V.ag [V.s []]⟩:=by kernel_rfl
theorem a5h_:aq_ En.P 276=V.ag [V.s []]:=by kernel_rfl
theorem a4u_:ax_ En.P 277=some ⟨TK.st [(0,1,false)],1,V.ag [V.s []]⟩:=by kernel_rfl
theorem a35_:aq_ En.P 277=V.ag [V.s []]:=by kernel_rfl
theorem a4a_:ax_ En.P 287=some ⟨TK.st [(0,1,false),(1,1,false),(2,1,false),(3,1,false)],4,V.ag [V.np,V.np,V.np,V.s []]⟩:=by kernel_rfl
theorem a6h_:aq_ En.P 287=V.ag [V.np,V.np,V.np,V.s []]:=by kernel_rfl
theorem a58_:ax_ En.P 288=some ⟨TK.st [(0,1,false),(1,1,false),(2,1,false),(3,1,false)],4,V.ag [V.np,V.np,V.np,V.s []]⟩:=by kernel_rfl
theorem a36_:aq_ En.P 288=V.ag [V.np,V.np,V.np,V.s []]:=by kernel_rfl
theorem a3v_:ax_ En.P 290=some ⟨TK.st [(0,0,true)],0,V.ag []⟩:=by kernel_rfl
theorem a4v_:aq_ En.P 290=V.ag []:=by kernel_rfl
theorem a6p_:ax_ En.P 291=some ⟨TK.st [(0,0,true)],0,V.ag []⟩:=by kernel_rfl
theorem a6m_:aq_ En.P 291=V.ag []:=by kernel_rfl
theorem a4s_:ax_ En.P 292=some ⟨TK.int IntKind.u8,1,V.i IntKind.u8 (0)⟩:=by kernel_rfl
theorem a5k_:aq_ En.P 292=V.i IntKind.u8 (0):=by kernel_rfl
theorem a4k_:ax_ En.P 293=some ⟨TK.int IntKind.u8,1,V.i IntKind.u8 (0)⟩:=by kernel_rfl
theorem a57_:aq_ En.P 293=V.i IntKind.u8 (0):=by kernel_rfl
theorem a52_:ax_ En.P 295=some ⟨TK.int IntKind.i32,1,V.i IntKind.i32 (0)⟩:=by kernel_rfl
theorem a6b_:aq_ En.P 295=V.i IntKind.i32 (0):=by kernel_rfl
theorem a6t_:ax_ En.P 296=some ⟨TK.int IntKind.i32,1,V.i IntKind.i32 (0)⟩:=by kernel_rfl
theorem a3l_:aq_ En.P 296=V.i IntKind.i32 (0):=by kernel_rfl
end
section
theorem ui_ {kids:List E} {k:Nat} (h:k<kids.length) (d:Int):ck_ (kids.drop k) d=(form kids[k] d&&ck_ (kids.drop (k+1)) d):=by
 rw[List.drop_eq_getElem_cons h];simp only[ck_]
theorem anl_ {kids:List E} {k:Nat} (h:kids.length≤k) (d:Int):ck_ (kids.drop k) d=true:=by
 rw[List.drop_of_length_le h];simp only[ck_]
theorem an5_ {k n:Int} {s:Str} {m:Nat} (h:shape k n s m=true) (hm:m≠0):k=3∧n=0∧m=2∧fn_ s=true∨k=4∧n=0∧m=1∧ey_ s=true:=by
 unfold shape at h
 by_cases k1:k=1
 ·subst k1;simp at h;omega
 by_cases k2:k=2
 ·subst k2;simp at h;omega
 by_cases k3:k=3
 ·subst k3;simp at h;exact .inl ⟨rfl,h.1.1,h.2,h.1.2⟩
 by_cases k4:k=4
 ·subst k4;simp at h;exact .inr ⟨rfl,h.1.1,h.2,h.1.2⟩
 simp[k1,k2,k3,k4]at h
theorem ux_ {kids:List E} {k:Nat} (h:k<kids.length) (d:Int):cg_ (kids.drop k) d=many kids[k] d+cg_ (kids.drop (k+1)) d:=by
 rw[List.drop_eq_getElem_cons h];simp only[cg_]
theorem anc_ {kids:List E} {k:Nat} (h:kids.length≤k) (d:Int):cg_ (kids.drop k) d=0:=by
 rw[List.drop_of_length_le h];simp only[cg_]
mutual
theorem pb_:∀(e:E) (d:Nat),form e d=true→1≤many e d∧many e d≤2 ^ d - 1
 |.mk k n s kids,0,h=>by simp[form]at h
 |.mk k n s kids,d+1,h=>by
  simp only[form,Bool.and_eq_true,decide_eq_true_eq]at h
  obtain⟨⟨_,h2⟩,h3⟩:=h
  have h4:kids.length≤2:=by
   by_cases hk:kids.length=0
   ·omega
   rcases an5_ h2 hk with⟨_,_,h,_⟩|⟨_,_,h,_⟩<;>omega
  have e1:((d+1:Nat):Int) - 1=(d:Int):=by omega
  rw[e1]at h3
  have:=o0_ kids d h3
  simp only[many]
  rw[if_pos (by omega),e1]
  have h5:(kids.length:Int) * (2 ^ d - 1)≤2 * (2 ^ d - 1):=Int.mul_le_mul_of_nonneg_right (by omega) (by have:(0:Int)<2 ^ d:=Int.pow_pos (by decide);omega)
  have h6:(2:Int) ^ (d+1)=2 * 2 ^ d:=by rw[Int.pow_succ];omega
  omega
theorem o0_:∀(l:List E) (d:Nat),ck_ l d=true→0≤cg_ l d∧cg_ l d≤l.length * (2 ^ d - 1)
 |[],d,_=>by simp[cg_]
 |e::r,d,h=>by
  simp only[ck_,Bool.and_eq_true]at h
  have h1:=pb_ e d h.1
  have h2:=o0_ r d h.2
  simp only[cg_,List.length_cons]
  have:((r.length+1:Nat):Int) * (2 ^ d - 1)=r.length * (2 ^ d - 1)+(2 ^ d - 1):=by rw[Int.natCast_add,Int.add_mul];simp
  omega
end
theorem ajs_ {l:List E} {d:Int}:∀(j:Nat),ck_ l d=true→ck_ (l.drop j) d=true:=by
 induction l with
 |nil=>intro j h;simpa using h
 |cons e r ih=>
  intro j h
  cases j with
  |zero=>simpa using h
  |succ j=>simp only[ck_,Bool.and_eq_true]at h;simpa using ih j h.2
theorem iv_ {l:List E} {d:Int} (h:ck_ l d=true):∀e∈l,form e d=true:=by
 induction l with
 |nil=>intro e he;cases he
 |cons x r ih=>
  simp only[ck_,Bool.and_eq_true]at h
  intro e he
  rcases List.mem_cons.1 he with rfl|he
  ·exact h.1
  exact ih h.2 e he
theorem z4_ (s:Str):decide (0<ak_ s)=fn_ s:=by
 unfold ak_ fn_
 by_cases h1:s=[60]
 ·subst h1;rfl
 by_cases h2:s=[43]
 ·subst h2;rfl
 by_cases h3:s=[45]
 ·subst h3;rfl
 by_cases h4:s=[42]
 ·subst h4;rfl
 simp[h1,h2,h3,h4]
mutual
theorem aul_:∀(e:E) (d p:Int),(wlk e d p).1=true→p<(wlk e d p).2∧(wlk e d p).2≤12
 |.mk k n s kids,d,p,h=>by
  simp only[wlk]at h ⊢
  by_cases h1:5<d∨12<p+1
  ·rw[if_pos h1]at h;cases h
  rw[if_neg h1]at h ⊢
  by_cases h2:shape k n s kids.length=true
  ·rw[if_pos h2]at h ⊢
   have:=akp_ kids (d+1) (p+1) (by omega) h
   omega
  rw[if_neg h2]at h;cases h
theorem akp_:∀(l:List E) (d p:Int),p≤12→(gd_ l d p).1=true→p≤(gd_ l d p).2∧(gd_ l d p).2≤12
 |[],d,p,hp,_=>by simp only[gd_];omega
 |e::r,d,p,hp,h=>by
  simp only[gd_]at h ⊢
  by_cases h1:(wlk e d p).1=true
  ·rw[if_pos h1]at h ⊢
   have h2:=aul_ e d p h1
   have h3:=akp_ r d _ h2.2 h
   omega
  rw[if_neg h1]at h;cases h
end
theorem y3_ {kids:List E} {k:Nat} (h:k<kids.length) (d p:Int):gd_ (kids.drop k) d p=if (wlk kids[k] d p).1 then gd_ (kids.drop (k+1)) d (wlk kids[k] d p).2 else(false,(wlk kids[k] d p).2):=by
 rw[List.drop_eq_getElem_cons h];simp only[gd_]
theorem ar2_ {kids:List E} {k:Nat} (h:kids.length≤k) (d p:Int):gd_ (kids.drop k) d p=(true,p):=by
 rw[List.drop_of_length_le h];simp only[gd_]
def eok (e:E):Bool:=form e 5&&decide (many e 5≤12)
mutual
theorem ac1_:∀(e:E) (dd:Nat) (p:Int),dd≤5→p≤12→
  (wlk e (6 - dd) p).1=(form e dd&&decide (p+many e dd≤12))∧((form e dd&&decide (p+many e dd≤12))=true→(wlk e (6 - dd) p).2=p+many e dd)
 |.mk k n s kids,0,p,hd,hp=>by
  have h:form (.mk k n s kids) ((0:Nat):Int)=false:=by simp[form]
  rw[h]
  simp only[wlk]
  rw[if_pos (by omega)]
  simp
 |.mk k n s kids,dd+1,p,hd,hp=>by
  have e1:(6:Int) - ((dd+1:Nat):Int)+1=6 - (dd:Int):=by omega
  have e2:(((dd+1:Nat):Int)) - 1=(dd:Int):=by omega
  have hml:=pb_ (.mk k n s kids) (dd+1)
  by_cases h1:12<p+1
  ·have hw:wlk (.mk k n s kids) (6 - ((dd+1:Nat):Int)) p=(false,p+1):=by simp only[wlk];rw[if_pos (.inr h1)]
   rw[hw]
   have:(form (.mk k n s kids) ((dd+1:Nat):Int)&&decide (p+many (.mk k n s kids) ((dd+1:Nat):Int)≤12))=false:=by
    rw[Bool.eq_false_iff];intro h
    simp only[Bool.and_eq_true,decide_eq_true_eq]at h
    have:=hml h.1;omega
   rw[this];simp
  have hf:form (.mk k n s kids) ((dd+1:Nat):Int)=(shape k n s kids.length&&ck_ kids (dd:Int)):=by
   simp only[form];rw[e2,show decide ((1:Int)≤((dd+1:Nat):Int))=true by simp;omega];rfl
  have hm:many (.mk k n s kids) ((dd+1:Nat):Int)=1+cg_ kids (dd:Int):=by
   simp only[many];rw[if_pos (by omega),e2]
  have hw:wlk (.mk k n s kids) (6 - ((dd+1:Nat):Int)) p=if shape k n s kids.length then gd_ kids (6 - (dd:Int)) (p+1)else(false,p+1):=by
   simp only[wlk];rw[if_neg (by omega),e1]
  rw[hf,hm,hw]
  cases hs:shape k n s kids.length with
  |false=>simp
  |true=>
   have:=vu_ kids dd (p+1) (by omega) (by omega)
   rw[if_pos rfl,Bool.true_and,show p+(1+cg_ kids (dd:Int))=p+1+cg_ kids (dd:Int) by omega]
   exact this
theorem vu_:∀(l:List E) (dd:Nat) (p:Int),dd≤5→p≤12→
  (gd_ l (6 - dd) p).1=(ck_ l dd&&decide (p+cg_ l dd≤12))∧((ck_ l dd&&decide (p+cg_ l dd≤12))=true→(gd_ l (6 - dd) p).2=p+cg_ l dd)
 |[],dd,p,hd,hp=>by simp[gd_,ck_,cg_,hp]
 |e::r,dd,p,hd,hp=>by
  obtain⟨h1,h2⟩:=ac1_ e dd p hd hp
  rw[show ck_ (e::r) (dd:Int)=(form e dd&&ck_ r dd) by simp only[ck_],show cg_ (e::r) (dd:Int)=many e dd+cg_ r dd by simp only[cg_],
   show gd_ (e::r) (6 - (dd:Int)) p=if (wlk e (6 - (dd:Int)) p).1 then gd_ r (6 - (dd:Int)) (wlk e (6 - (dd:Int)) p).2 else(false,(wlk e (6 - (dd:Int)) p).2) by simp only[gd_]]
  by_cases hw:(form e dd&&decide (p+many e dd≤12))=true
  ·have hw1:=h1.trans hw
   have hw2:=h2 hw
   simp only[Bool.and_eq_true,decide_eq_true_eq]at hw
   rw[if_pos hw1,hw2,hw.1,Bool.true_and,show p+(many e dd+cg_ r dd)=p+many e dd+cg_ r dd by omega]
   exact vu_ r dd _ hd hw.2
  have hw1:(wlk e (6 - (dd:Int)) p).1=false:=by rw[h1];simpa using hw
  have:(form e (dd:Int)&&ck_ r (dd:Int)&&decide (p+(many e dd+cg_ r dd)≤12))=false:=by
   rw[Bool.eq_false_iff];intro h
   simp only[Bool.and_eq_true,decide_eq_true_eq]at h hw
   have:=o0_ r dd h.1.2
   exact hw ⟨h.1.1,by omega⟩
  rw[hw1,this];simp
end
theorem ax6_ (e:E):(wlk e 1 0).1=eok e:=by
 have:=(ac1_ e 5 0 (by omega) (by omega)).1
 rw[show(6:Int) - ((5:Nat):Int)=1 by omega]at this
 rw[this];unfold eok;simp
end
section
def E0:E:=.mk 0 0 [] []
theorem E.ind' {P:E→Prop} (h:∀e,(∀x∈e.kids,P x)→P e) (e:E):P e:=E.ind (fun k n s kids ih=>h _ ih) e
theorem ag_ {α:Type} {l:List α} {k:Nat} {d:α} (h:k<l.length):l.getD k d∈l:=by
 simp[List.getD_eq_getElem?_getD,List.getElem?_eq_getElem h]
mutual
def sm:E→Bool
 |.mk _ _ s kids=>decide (s.length<4611686018427387904)&&decide (kids.length<1099511627776)&&sms kids
def sms:List E→Bool
 |[]=>true
 |e::r=>sm e&&sms r
end
theorem cj_:∀ {l:List E},sms l=true→∀e∈l,sm e=true
 |[],_,e,he=>by cases he
 |x::l,h,e,he=>by
  simp only[sms,Bool.and_eq_true]at h
  rcases List.mem_cons.1 he with rfl|he
  ·exact h.1
  exact cj_ h.2 e he
theorem fg_ {e:E} (h:sm e=true):e.s.length<4611686018427387904∧e.kids.length<4611686018427387904∧sms e.kids=true:=by
 cases e;simp only[sm,Bool.and_eq_true,decide_eq_true_eq]at h;exact⟨h.1.1,Nat.lt_trans h.1.2 (by decide),h.2⟩
theorem alw_ {e:E} (h:sm e=true):e.kids.length<1099511627776:=by
 cases e;simp only[sm,Bool.and_eq_true,decide_eq_true_eq]at h;exact h.1.2
theorem in_ {l:List E} {k:Nat} (h:k<l.length):l.getD k E0=l[k]:=by simp[List.getD_eq_getElem?_getD,List.getElem?_eq_getElem h]
theorem mq_ (e:E) (d:Int):form e d=(decide (1≤d)&&shape e.kind e.n e.s e.kids.length&&ck_ e.kids (d - 1)):=by cases e;simp only[form,E.kind,E.n,E.s,E.kids]
mutual
def wf:E→Bool
 |.mk k _ _ kids=>(k != 4||!kids.isEmpty)&&wfs kids
def wfs:List E→Bool
 |[]=>true
 |e::r=>wf e&&wfs r
end
theorem acv_:∀ {l:List E},wfs l=true→∀e∈l,wf e=true
 |[],_,e,he=>by cases he
 |x::l,h,e,he=>by
  simp only[wfs,Bool.and_eq_true]at h
  rcases List.mem_cons.1 he with rfl|he
  ·exact h.1
  exact acv_ h.2 e he
theorem awb_ {e:E} (h:wf e=true):(e.kind=4→0<e.kids.length)∧wfs e.kids=true:=by
 cases e with
 |mk k n s kids=>
  simp only[wf,Bool.and_eq_true]at h
  refine⟨fun hk=>?_,h.2⟩
  simp only[E.kind]at hk
  subst hk
  have:=h.1
  simp only[E.kids]
  cases kids with
  |nil=>simp at this
  |cons a b=>simp
theorem z2_ {e:E} (h:e.kind=4) (hk:0<e.kids.length):bare e=bare (e.kids.getD 0 E0):=by
 cases e with
 |mk k n s kids=>
  simp only[E.kind]at h
  simp only[E.kids]at hk
  subst h
  cases kids with
  |nil=>simp at hk
  |cons a b=>simp[bare,afe_,E.kids]
theorem r6_ {e:E} (h:e.kind≠4):bare e = .mk e.kind e.n e.s (ek_ e.kids):=by
 cases e with
 |mk k n s kids=>simp only[E.kind]at h;simp[bare,h,E.kind,E.n,E.s,E.kids]
theorem iw_:∀l:List E,(ek_ l).length=l.length
 |[]=>by simp[ek_]
 |e::r=>by simp[ek_,iw_ r]
theorem rb_:∀l:List E,ek_ l=l.map bare
 |[]=>by simp[ek_]
 |e::r=>by simp[ek_,rb_ r]
theorem ajn_ {l:List E} {k:Nat} (h:k<l.length):ek_ (l.take (k+1))=ek_ (l.take k)++[bare (l.getD k E0)]:=by
 rw[rb_,rb_,List.take_add_one,List.getElem?_eq_getElem h,List.getD_eq_getElem?_getD,List.getElem?_eq_getElem h,List.map_append]
 rfl
mutual
def pla:E→Bool
 |.mk k _ _ kids=>k != 4&&lw_ kids
def lw_:List E→Bool
 |[]=>true
 |e::r=>pla e&&lw_ r
end
theorem vd_ (e:E):pla e=(e.kind != 4&&lw_ e.kids):=by cases e;simp only[pla,E.kind,E.kids]
end
section
mutual
def eC:E→List V
 |.mk k n s kids=>[.i .i64 k,.i .i64 n,.s s,.sl false (eR kids)]
def eR:List E→List (List V)
 |[]=>[]
 |e::r=>eC e::eR r
end
theorem dz_ (e:E):eC e=[.i .i64 e.kind,.i .i64 e.n,.s e.s,.sl false (eR e.kids)]:=by cases e;simp only[eC,E.kind,E.n,E.s,E.kids]
theorem rk_:∀l:List E,eR l=l.map eC
 |[]=>by simp only[eR,List.map_nil]
 |e::r=>by simp only[eR,List.map_cons,rk_ r]
theorem r1_ (l:List E):(eR l).length=l.length:=by rw[rk_,List.length_map]
theorem b8_ {l:List E} {k:Nat} (h:k<l.length):(eR l).getD k []=eC (l.getD k E0):=by
 rw[rk_];simp[List.getD_eq_getElem?_getD,List.getElem?_eq_getElem h]
mutual
theorem axv_:∀e:E,bu_ (eC e)=true
 |.mk k n s kids=>by simp only[eC,bu_,V.pure,hr_ kids,Bool.and_self]
theorem hr_:∀l:List E,bg_ (eR l)=true
 |[]=>by simp only[eR,bg_]
 |e::r=>by simp only[eR,bg_,axv_ e,hr_ r,Bool.and_self]
end
def byR (b:Str):List (List V):=b.map fun c=>[.i .u8 c.toNat]
theorem k2_ (b:Str):(byR b).length=b.length:=by simp[byR]
theorem hx_:∀b:Str,bg_ (byR b)=true
 |[]=>rfl
 |c::b=>by simp only[byR,List.map_cons,bg_,bu_,V.pure,Bool.true_and];exact hx_ b
theorem aaq_ {b:Str} {k:Nat} (h:k<b.length):(byR b).getD k []=[.i .u8 (b.getD k 0).toNat]:=by
 simp[byR,List.getD_eq_getElem?_getD,List.getElem?_eq_getElem h]
theorem as7_ (b:Str) (k:Nat):(byR b).take k=byR (b.take k):=by simp[byR,List.map_take]
theorem a3p_ (a b c:Nat) (d:List V):(∃el z y zc,some (TK.sl a b c d)=some (TK.sl el z y zc))=True:=eq_true ⟨a,b,c,d,rfl⟩
end
section
attribute [go_sem] lxs atc_ gE gO evO obO asj_ as6_ St.pv St.ev peel dg_ pcB Op.operands Call.operands V.ofConst V.ofConst1 nm a0h_ a0o_ z9_ avj_ a0v_ idxV idxC maxV minV or_ jk_ tySt tySz TK.agg az4_ aho_ af0_ al6_ adi_ akq_ zw_ ak5_ aa3_ aa4_ aunV aunC rg_ ldV ldC cc_ stV okC stC fldV fldC ixaV ixaC s2_ l6_ hp_ isC s6_ extV extC lenV lenC slcV slcC bndC ioV ro_ appC appE mkE V.one V.cells isB jc_ gz_ anz_ aib_ xk_ delM wrL pv_ ez_ if_ rnB rn rns rnr ab_ at_ kv_ a0_ ajg_ fo_ az2_ az3_ a0n_ newE rp_ alq_ nilO nilV ym_ anr_ apl_ List.head?_cons List.head?_nil oy_ u1_ ada_ lend les leV ler fv_ fu_ ad_ bsO bsE cvO cvV id_ frz er_ im_ frzB px_ aw_ a5_ bu_ bg_ V.pure cls clr V.cl sk_ V.flat us List.getD_cons_zero List.getD_cons_succ List.getD_nil List.set_cons_zero List.set_cons_succ List.set_nil List.getElem?_cons_zero List.getElem?_cons_succ List.getElem?_nil Option.map_some Option.map_none Option.bind_some Option.bind_none Option.getD_some Option.getD_none Option.isSome_some Option.isNone_none Option.isNone_some Option.toArray_some Option.toArray_none List.toList_toArray List.map_cons List.map_nil List.append_nil List.nil_append List.cons_append List.all_cons List.all_nil List.all_append List.isEmpty_nil List.isEmpty_cons List.reverse_cons List.reverse_nil List.drop_zero List.drop_succ_cons List.drop_nil List.take_zero List.take_succ_cons List.take_nil List.length_cons List.length_nil List.zip_cons_cons List.zip_nil_left List.zip_nil_right List.flatMap_cons List.flatMap_nil List.replicate_succ List.replicate_zero Array.toList_append List.getElem?_toArray Array.getD_eq_getD_getElem? Bool.true_and Bool.and_true Bool.false_and Bool.and_false Bool.not_true Bool.not_false Bool.and_self beq_self_eq_true and_true true_and and_self cond_true cond_false if_true if_false ite_true ite_false decide_true decide_false Bool.decide_eq_true true_implies implies_true imp_self Nat.zero_add Nat.le_refl Nat.add_zero Nat.zero_mul Int.toNat_zero List.contains_nil List.contains_cons Bool.or_false Bool.or_true Bool.false_or Bool.true_or true_or or_true eq_self List.append_toArray Bool.false_eq_true Array.size_empty List.push_toArray List.size_toArray Array.toList_map Array.toList_empty Bool.cond_false_right Bool.cond_true_left beq_true beq_false Int.toNat_natCast af_ ah_ m0_ b7_ ks_ kr_ dz_ r1_ hr_ a23_ k2_ hx_ as7_ a3p_ ifO maxO apk_ anw_ aqa_ ap6_ a1s_ aw0_ a2m_ ty2 zo2 ty3 zo3 ty4 zo4 ty5 zo5 ty6 zo6 ty7 zo7 ty8 zo8 ty9 zo9 ty10 zo10 ty11 zo11 ty12 zo12 ty13 zo13 ty14 zo14 ty15 zo15 ty16 zo16 ty17 zo17 ty18 zo18 ty19 zo19 ty21 zo21 ty24 zo24 ty27 zo27 ty29 zo29 ty34 zo34 ty35 zo35 ty36 zo36 ty37 zo37 ty38 zo38 ty39 zo39 ty49 zo49 ty51 zo51 ty54 zo54 ty55 zo55 ty56 zo56 ty57 zo57 ty58 zo58 ty65 zo65 ty66 zo66 ty67 zo67 ty79 zo79 ty80 zo80 ty81 zo81 ty82 zo82 ty83 zo83 ty97 zo97 a3w_ a4c_ a51_ a5v_ a4x_ a4j_ a5m_ a4r_ a4d_ a5n_ a4n_ a34_ a55_ a5l_ a48_ a6a_ a40_ a4g_ a4b_ a5d_ a3u_ a5x_ a5z_ a5a_ a4w_ a5q_ a3s_ a5s_ a5g_ a4e_ a6k_ a6e_ a46_ a6o_ a6u_ a6r_ a38_ a4h_ a5j_ a53_ a6s_ a5c_ a44_ a5y_ a3q_ a4l_ a43_ a4m_ a54_ a5f_ a32_ a31_ a5r_ a5i_ a4t_ a4i_ a5w_ a5u_ a5e_ a5h_ a4u_ a35_ a4a_ a6h_ a58_ a36_ a3v_ a4v_ a6p_ a6m_ a4s_ a5k_ a4k_ a57_ a52_ a6b_ a6t_ a3l_
open Go.RowKit
section
variable {E:Env} {C:Cx} {s s':St} {Q:Exit→St→Prop} {id:Nat} {l:List Oper} {p:Prop} {es:List Eff}
/-! the same rules, the reckoning by default -/
theorem aa_ {f:FuncId} {fn:Func} {c:Code} {vs rs σ0:List V} {L0 Lr:List Blk} {n:Nat} {M0:List (Nat × Blk)} (η:List Nat) (hf:E.P.funcs[f]? = some fn) (hn:fn.ntmps=n) (h:∀C,AWp E C c (fun e s=>(e = .normal∨e = .ret)∧Out E fn L0.length rs Lr η s) ⟨σ0,ae_ M0,us []⟩) (hb:fn.body=some c:=by rfl) (hname:(fn.name== "runtime.NumGoroutine")=false:=by rfl) (hk:L0.length≤10:=by simp)
  (hσ:vs++List.replicate (n - vs.length) .no=σ0:=by simp only[List.length_cons,List.length_nil,Nat.reduceAdd,Nat.reduceSub,List.replicate_succ,List.replicate_zero,List.cons_append,List.nil_append];rfl) (hM:te_ 0 L0=M0:=by simp only[te_];rfl):ACall E f vs L0 rs Lr:=by
 subst hσ hM hn
 refine xn_ η hf hb hname hk fun C=>?_
 rw[v0_];exact h C
theorem acall_bE {f:FuncId} {fn:Func} {c:Code} {vs rs σ0:List V} {L0 Lr:List Blk} {n:Nat} {M0:List (Nat × Blk)} (hf:E.P.funcs[f]? = some fn) (hn:fn.ntmps=n) (h:∀C,AWp E C c (fun e s=>(e = .normal∨e = .ret)∧∃η,Out E fn L0.length rs Lr η s) ⟨σ0,ae_ M0,us []⟩) (hb:fn.body=some c:=by rfl) (hname:(fn.name== "runtime.NumGoroutine")=false:=by rfl) (hk:L0.length≤10:=by simp)
  (hσ:vs++List.replicate (n - vs.length) .no=σ0:=by simp only[List.length_cons,List.length_nil,Nat.reduceAdd,Nat.reduceSub,List.replicate_succ,List.replicate_zero,List.cons_append,List.nil_append];rfl) (hM:te_ 0 L0=M0:=by simp only[te_];rfl):ACall E f vs L0 rs Lr:=by
 subst hσ hM hn
 refine md_ hf hb hname hk fun C=>?_
 rw[v0_];exact h C
theorem AWp.rg (cs:List (CallC E)) (k:Q .normal s') (h:lxs E [] l.toArray l s cs [] True=(p,es,s'):=by simp only[go_sem,seval];rfl) (hp:p:=by first|trivial|(simp;done)):AWp E C (.region id l.toArray false) Q s:=AWp.rgn cs h hp k
theorem AWp.rgo (cs:List (CallC E)) (hp:p) (k:Q .normal s') (h:lxs E [] l.toArray l s cs [] True=(p,es,s'):=by simp only[go_sem,seval];rfl):AWp E C (.region id l.toArray false) Q s:=AWp.rgn cs h hp k
theorem AWp.rgS (sel:List Nat) (cs:List (CallC E)) (k:Q .normal s') (h:lxs E sel l.toArray l s cs [] True=(p,es,s'):=by simp only[go_sem,seval];rfl) (hp:p:=by first|trivial|(simp;done)):AWp E C (.region id l.toArray false) Q s:=AWp.rgnS sel cs h hp k
theorem AWp.rgSo (sel:List Nat) (cs:List (CallC E)) (hp:p) (k:Q .normal s') (h:lxs E sel l.toArray l s cs [] True=(p,es,s'):=by simp only[go_sem,seval];rfl):AWp E C (.region id l.toArray false) Q s:=AWp.rgnS sel cs h hp k
theorem AWp.rgD (cs:List (CallC E)) (k:Q .normal s') (h:lxs E [] l.toArray l s cs [] True=(p,es,s'):=by simp only[go_sem,seval];rfl) (hB:ja_ l.toArray (es.map cu_)=true:=by rfl) (hp:p:=by first|trivial|(simp;done)) (hm:E.P.follows .mixedOrders=true:=by exact enM):AWp E C (.region id l.toArray true) Q s:=AWp.rgnD cs hm h hB hp k
theorem AWp.rgDo (cs:List (CallC E)) (hp:p) (k:Q .normal s') (h:lxs E [] l.toArray l s cs [] True=(p,es,s'):=by simp only[go_sem,seval];rfl) (hB:ja_ l.toArray (es.map cu_)=true:=by rfl) (hm:E.P.follows .mixedOrders=true:=by exact enM):AWp E C (.region id l.toArray true) Q s:=AWp.rgnD cs hm h hB hp k
theorem AWp.rgDS (sel:List Nat) (cs:List (CallC E)) (k:Q .normal s') (h:lxs E sel l.toArray l s cs [] True=(p,es,s'):=by simp only[go_sem,seval];rfl) (hB:ja_ l.toArray (es.map cu_)=true:=by rfl) (hp:p:=by first|trivial|(simp;done)) (hm:E.P.follows .mixedOrders=true:=by exact enM):AWp E C (.region id l.toArray true) Q s:=AWp.rgnDS sel cs hm h hB hp k
theorem AWp.rgDSo (sel:List Nat) (cs:List (CallC E)) (hp:p) (k:Q .normal s') (h:lxs E sel l.toArray l s cs [] True=(p,es,s'):=by simp only[go_sem,seval];rfl) (hB:ja_ l.toArray (es.map cu_)=true:=by rfl) (hm:E.P.follows .mixedOrders=true:=by exact enM):AWp E C (.region id l.toArray true) Q s:=AWp.rgnDS sel cs hm h hB hp k
theorem AWp.cB {c:Operand} {x y:Code} {t:Bool} (h1:t=true→AWp E C x Q s) (h0:t=false→AWp E C y Q s) (hc:s.pv E c = .b t:=by simp only[go_sem,seval];rfl) (hp:dg_ (s.ev E c)=true:=by simp only[go_sem,seval]):AWp E C (.cond c x y) Q s:=AWp.condB hc hp h1 h0
theorem Can.wl {σ σ':List V} {L L':List (Nat × Blk)} {U U':List Nat} (h:les σ σ':=by simp only[go_sem,seval,av_,leV,as_,au_,V.inn,us,true_or,or_true]) (hi:as_ (us U') σ'=true:=by simp only[go_sem,seval,av_,leV,as_,au_,V.inn,us,true_or,or_true]) (hL:av_ L U' L':=by simp only[go_sem,seval,av_,leV,as_,au_,V.inn,us,true_or,or_true]):Can E C ⟨σ,ae_ L,us U⟩ ⟨σ',ae_ L',us U'⟩:=Can.weak (Weak.lit h hi hL)
theorem Can.sX {σ σ':List V} {L L':List (Nat × Blk)} {U U':List Nat} (l l':Nat) (hl:10≤l:=by decide) (hl':10≤l':=by decide) (hb:l<200:=by decide) (hb':l'<200:=by decide) (hc:cls 200 σ=true:=by simp only[go_sem,seval,V.cl]) (hm:(L.all fun p=>decide (p.1<200)&&clr 200 p.2.rows)=true:=by simp only[go_sem,seval,V.cl]) (h1:rns (swL l l') σ=σ':=by simp only[go_sem,seval,dv_,sw,swM,rnB]<;>rfl) (h2:swM l l' L=L':=by simp only[go_sem,seval,dv_,sw,swM,rnB]<;>rfl) (h3:U.map (sw l l')=U':=by simp only[go_sem,seval,dv_,sw,swM,rnB]<;>rfl):Can E C ⟨σ,ae_ L,us U⟩ ⟨σ',ae_ L',us U'⟩:=Can.swap l l' hl hl' hb hb' hc hm h1 h2 h3
theorem AWp.fX {c:Code} {σ σ':List V} {L L':List (Nat × Blk)} {U:List Nat} {b:Blk} (l:Nat) (h:AWp E C c Q ⟨σ',ae_ L',us U⟩) (hb:ae_ L l=some b:=by simp only[go_sem,seval];rfl) (hi:bg_ b.rows=true:=by simp only[go_sem,seval]) (h1:er_ l b.z b.rows σ=σ':=by simp only[go_sem,seval];rfl) (h2:px_ l b L=L':=by simp only[go_sem,seval];rfl):AWp E C c Q ⟨σ,ae_ L,us U⟩:=AWp.frz l hb hi h1 h2 h
theorem Can.wh {p:Prop} {σ σ':List V} {L L':List (Nat × Blk)} {U U':List Nat} (h:p) (h0:les σ σ'=p:=by simp only[go_sem,seval,av_,leV,as_,au_,V.inn,us,true_or,or_true];rfl) (hi:as_ (us U') σ'=true:=by simp only[go_sem,seval,av_,leV,as_,au_,V.inn,us,true_or,or_true]) (hL:av_ L U' L':=by simp only[go_sem,seval,av_,leV,as_,au_,V.inn,us,true_or,or_true]):Can E C ⟨σ,ae_ L,us U⟩ ⟨σ',ae_ L',us U'⟩:=Can.wl (by rw[h0];exact h) hi hL
theorem Can.wk {p q:Prop} {σ σ':List V} {L L':List (Nat × Blk)} {U U':List Nat} (h:p) (k:q) (h0:les σ σ'=p:=by simp only[go_sem,seval,av_,leV,as_,au_,V.inn,us,true_or,or_true];rfl) (hi:as_ (us U') σ'=true:=by simp only[go_sem,seval,av_,leV,as_,au_,V.inn,us,true_or,or_true]) (k0:av_ L U' L'=q:=by simp only[go_sem,seval,av_,leV,as_,au_,V.inn,us,true_or,or_true];rfl):Can E C ⟨σ,ae_ L,us U⟩ ⟨σ',ae_ L',us U'⟩:=Can.wl (by rw[h0];exact h) hi (by rw[k0];exact k)
theorem Can.wm {q:Prop} {σ σ':List V} {L L':List (Nat × Blk)} {U U':List Nat} (k:q) (h:les σ σ':=by simp only[go_sem,seval,av_,leV,as_,au_,V.inn,us,true_or,or_true]) (hi:as_ (us U') σ'=true:=by simp only[go_sem,seval,av_,leV,as_,au_,V.inn,us,true_or,or_true]) (k0:av_ L U' L'=q:=by simp only[go_sem,seval,av_,leV,as_,au_,V.inn,us,true_or,or_true];rfl):Can E C ⟨σ,ae_ L,us U⟩ ⟨σ',ae_ L',us U'⟩:=Can.wl h hi (by rw[k0];exact k)
variable {fn:Func} {rs:List V} {lr:List ResultVar}
theorem Out.pl (hl:fn.results.toList=lr) (h2:lr.map (ba_ E.P s)=rs) (h1:a1_ E.P s lr:=by simp only[a1_,bn_,go_sem,seval]<;>(split<;>rfl)) (h3:bu_ rs=true:=by simp only[go_sem,seval]):Out E fn 0 rs [] [] s:=Out.plain hl h1 h2 h3
theorem Out.plL (hl:fn.results.toList=lr) (h2:les (lr.map (ba_ E.P s)) rs) (h1:a1_ E.P s lr:=by simp only[a1_,bn_,go_sem,seval]<;>(split<;>rfl)) (h3:bu_ rs=true:=by simp only[go_sem,seval]):Out E fn 0 rs [] [] s:=Out.plainL hl h1 h2 h3
theorem Out.mm {k:Nat} {Lr:List Blk} {η:List Nat} (hl:fn.results.toList=lr) (h2:lr.map (ba_ E.P s)=rns η rs) (h8:aw_ s.m η η Lr) (h1:a1_ E.P s lr:=by simp only[a1_,bn_,go_sem,seval]) (h3:k≤Lr.length:=by simp) (h4:η.take k=List.range k:=by rfl) (h5:η.Nodup:=by decide) (h6:cls Lr.length rs=true:=by simp only[go_sem,seval]) (h7:a5_ Lr.length Lr=true:=by simp only[a5_,go_sem,seval]):Out E fn k rs Lr η s:=Out.mem' hl h1 h2 h3 h4 h5 h6 h7 h8
theorem Out.mmL {k:Nat} {Lr:List Blk} {η:List Nat} (hl:fn.results.toList=lr) (h2:les (lr.map (ba_ E.P s)) (rns η rs)) (h8:aw_ s.m η η Lr) (h1:a1_ E.P s lr:=by simp only[a1_,bn_,go_sem,seval]) (h3:k≤Lr.length:=by simp) (h4:η.take k=List.range k:=by rfl) (h5:η.Nodup:=by decide) (h6:cls Lr.length rs=true:=by simp only[go_sem,seval]) (h7:a5_ Lr.length Lr=true:=by simp only[a5_,go_sem,seval]):Out E fn k rs Lr η s:=Out.memL' hl h1 h2 h3 h4 h5 h6 h7 h8
theorem Out.pP {p:Prop} (hr:fn.results=lr.toArray) (h:p) (h2:(lr.map (ba_ E.P s)=rs)=p:=by simp only[ba_,go_sem,seval];rfl) (h1:a1_ E.P s lr:=by simp only[a1_,bn_,go_sem,seval]<;>(split<;>rfl)) (h3:bu_ rs=true:=by simp only[go_sem,seval]):Out E fn 0 rs [] [] s:=Out.pl (by rw[hr]) (by rw[h2];exact h) h1 h3
theorem Out.pQ {p:Prop} (hr:fn.results=lr.toArray) (h:p) (h2:les (lr.map (ba_ E.P s)) rs=p:=by simp only[ba_,go_sem,seval];rfl) (h1:a1_ E.P s lr:=by simp only[a1_,bn_,go_sem,seval]<;>(split<;>rfl)) (h3:bu_ rs=true:=by simp only[go_sem,seval]):Out E fn 0 rs [] [] s:=Out.plL (by rw[hr]) (by rw[h2];exact h) h1 h3
theorem Out.mP {p q:Prop} {k:Nat} {Lr:List Blk} {η:List Nat} (hr:fn.results=lr.toArray) (h:p) (h8:q) (h2:(lr.map (ba_ E.P s)=rns η rs)=p:=by simp only[ba_,rns,rn,go_sem,seval];rfl) (h9:aw_ s.m η η Lr=q:=by simp only[aw_,go_sem,seval];rfl) (h1:a1_ E.P s lr:=by simp only[a1_,bn_,go_sem,seval]) (h3:k≤Lr.length:=by simp) (h4:η.take k=List.range k:=by rfl) (h5:η.Nodup:=by decide) (h6:cls Lr.length rs=true:=by simp only[go_sem,seval]) (h7:a5_ Lr.length Lr=true:=by simp only[a5_,go_sem,seval]):Out E fn k rs Lr η s:=Out.mm (by rw[hr]) (by rw[h2];exact h) (by rw[h9];exact h8) h1 h3 h4 h5 h6 h7
end
end
section
theorem ta_ (n lo hi:Int):ACall En 94 [.i .i64 n,.i .i64 lo,.i .i64 hi] [] [.b (decide (lo≤n)&&decide (n≤hi))] []:=by
 refine aa_ [] Tryz.func94 Tryz.ntmps94 fun C=>?_
 refine .seq (.rg [] ?_)
 refine .seq (.rg [] ?_)
 refine .ret ⟨.inr rfl,Out.pP Tryz.results94 ?_⟩;trivial
theorem u8_ (c:UInt8):ACall En 250 [.i .u8 c.toNat] [] [.b (cd_ c)] []:=by
 refine aa_ [] Tryz.func250 Tryz.ntmps250 fun C=>?_
 refine .seq (.rg [] ?_)
 refine .seq (.rg [] ?_)
 refine .ret ⟨.inr rfl,Out.pP Tryz.results250 ?_⟩;simp only[cd_]
theorem anf_ (c:UInt8):ACall En 251 [.i .u8 c.toNat] [] [.b (b1_ c)] []:=by
 refine aa_ [] Tryz.func251 Tryz.ntmps251 fun C=>?_
 refine .seq (.rg [] ?_)
 refine .seq (.rg [] ?_)
 refine .ret ⟨.inr rfl,Out.pP Tryz.results251 ?_⟩;simp only[b1_]
theorem agw_ (s:Str):ACall En 199 [.s s] [] [.b (ey_ s)] []:=by
 refine aa_ [] Tryz.func199 Tryz.ntmps199 fun C=>?_
 refine .seq (.rg [] ?_)
 refine .seq (.rg [] ?_)
 refine .ret ⟨.inr rfl,Out.pP Tryz.results199 ?_⟩;simp only[ey_]
theorem mc_ (s:Str):ACall En 261 [.s s] [] [.i .i64 (ak_ s)] []:=by
 refine aa_ [] Tryz.func261 Tryz.ntmps261 fun C=>?_
 refine .seq (.rg [] ?_)
 refine .seq (.seq (.rg [] ?_))
 refine .block (.seq (.rg [] ?_))
 refine .cB (fun h4=>?_) fun h4=>?_
 ·refine .seq (.rg [] ?_)
  refine .ret ⟨.inr rfl,Out.pP Tryz.results261 ?_⟩;simp only[ak_];simp_all
 refine .seq (.seq (.rg [] ?_))
 refine .cB (fun h6=>?_) fun h6=>?_
 ·refine .skip (.cB (fun h6=>?_) fun h6=>?_)
  ·refine .seq (.rg [] ?_)
   refine .ret ⟨.inr rfl,Out.pP Tryz.results261 ?_⟩;simp only[ak_];simp_all
  refine .seq (.rg [] ?_)
  refine .cB (fun h9=>?_) fun h9=>?_
  ·refine .seq (.rg [] ?_)
   refine .ret ⟨.inr rfl,Out.pP Tryz.results261 ?_⟩;simp only[ak_];simp_all
  refine .skip (.seq (.rg [] ?_))
  refine .ret ⟨.inr rfl,Out.pP Tryz.results261 ?_⟩;simp only[ak_];simp_all
 refine .rg [] ?_
 refine .cB (fun h6=>?_) fun h6=>?_
 ·refine .seq (.rg [] ?_)
  refine .ret ⟨.inr rfl,Out.pP Tryz.results261 ?_⟩;simp only[ak_];simp_all
 refine .seq (.rg [] ?_)
 refine .cB (fun h9=>?_) fun h9=>?_
 ·refine .seq (.rg [] ?_)
  refine .ret ⟨.inr rfl,Out.pP Tryz.results261 ?_⟩;simp only[ak_];simp_all
 refine .skip (.seq (.rg [] ?_))
 refine .ret ⟨.inr rfl,Out.pP Tryz.results261 ?_⟩;simp only[ak_];simp_all
theorem p7_ (s:Str):ACall En 103 [.s s] [] [.b (ey_ s)] []:=by
 refine aa_ [] Tryz.func103 Tryz.ntmps103 fun C=>?_
 refine .seq (.rg [] ?_)
 refine .seq (.rg [] ?_)
 refine .ret ⟨.inr rfl,Out.pP Tryz.results103 ?_⟩;simp only[ey_]
theorem arv_ (s:Str):ACall En 237 [.s s] [] [.b (fn_ s)] []:=by
 refine aa_ [] Tryz.func237 Tryz.ntmps237 fun C=>?_
 refine .seq (.rg [] ?_)
 refine .seq (.rg [] ?_)
 refine .ret ⟨.inr rfl,Out.pP Tryz.results237 ?_⟩;simp only[fn_]
theorem ars_ (s:Str):ACall En 169 [.s s] [] [.b (jm_ s)] []:=by
 refine aa_ [] Tryz.func169 Tryz.ntmps169 fun C=>?_
 refine .seq (.rg [] ?_ (h:=by simp (maxSteps:=1000000) only[go_sem,seval];rfl))
 refine .seq (.rg [ab_ (p7_ s)] ?_ (h:=by simp (maxSteps:=1000000) only[go_sem,seval];rfl))
 refine .ret ⟨.inr rfl,?_⟩
 exact Out.pl (by simp only[Tryz.results169];rfl) (by simp only[ba_,go_sem,seval]<;>(simp only[jm_])) (h1:=by simp only[a1_,bn_,go_sem,seval]<;>(split<;>rfl)) (h3:=by simp (maxSteps:=1000000) only[go_sem,seval])
end
section
theorem ao8_ (b:Str):ACall En 20 [.sl false (byR b)] [] [.pt 0 2 0 0] [⟨83,2,[[.sl false (byR (b.take 2000)),.i .i64 0]]⟩]:=by
 refine aa_ [20] Tryz.func20 Tryz.ntmps20 fun C=>?_
 refine .seq (.rg [] ?_)
 refine .seq (.seq (.rg [] ?_))
 refine .cB (fun h5=>?_) fun h5=>?_
 ·refine .rgo [] ?_ ?_
  ·((simp at h5;simp;omega))
  refine .seq (.rg [] ?_)
  refine .ret ⟨.inr rfl,Out.mP Tryz.results20 ?_ ?_⟩
  ·trivial
  trivial
 refine .skip (.seq (.rg [] ?_))
 refine .ret ⟨.inr rfl,Out.mP Tryz.results20 ?_ ?_⟩
 ·trivial
 simp at h5;rw[List.take_of_length_le (show b.length≤2000 by omega)]
abbrev wr (n:Int):Int:=IntKind.i64.wrap n
def xo_ (b:Str) (k:Int):Int:=wr (wr (wr (wr ((b.getD (k.tmod b.length).toNat 0).toNat * 131)+wr ((b.getD ((k * 7+3).tmod b.length).toNat 0).toNat * 1117))+wr (k * 29))+wr (wr (k.tdiv b.length) * 53))
def mixX (b:Str) (k:Int):Int:=IntKind.i64.wrap (BitVec.ofInt IntKind.i64.bits (xo_ b k) ^^^ BitVec.ofInt IntKind.i64.bits (IntKind.i64.wrap ((xo_ b k).tdiv 64))).toNat
def ay_ (b:Str) (p n:Int):Int:=
 if n<1∨b.length=0 then 0 else if p<b.length then((b.getD p.toNat 0).toNat:Int).tmod n else(mixX b p).tmod n
theorem ak2_ {k:Int} {n:Nat} (h:0≤k) (hn:0<n):(k.tmod n).toNat<n:=by
 have:=Int.tmod_lt_of_pos k (show(0:Int)<n by omega)
 have:=Int.tmod_nonneg (n:Int) h
 omega
theorem a0m_ (c:UInt8):IntKind.i64.wrap (c.toNat:Int)=c.toNat:=by
 have:=UInt8.toNat_lt c
 exact ac_ (by omega) (by omega)
theorem c5_ (b:Str) (p n:Int) (hb:b.length≤2000) (hp:0≤p) (hp2:p<1099511627776) :
  ACall En 23 [.pt 0 2 0 0,.i .i64 n] [⟨83,2,[[.sl false (byR b),.i .i64 p]]⟩] [.i .i64 (ay_ b p n)] [⟨83,2,[[.sl false (byR b),.i .i64 (p+1)]]⟩]:=by
 refine aa_ [0] Tryz.func23 Tryz.ntmps23 fun C=>?_
 refine .seq (.rg [] ?_)
 refine .seq (.rg [] ?_ (h:=by simp only[go_sem,seval,ac_ (show -9223372036854775808≤p+1 by omega) (by omega)];rfl))
 refine .seq (.seq (.rg [] ?_))
 refine .cB (fun h24=>?_) fun h24=>?_
 ·refine .seq (.rg [] ?_)
  refine .ret ⟨.inr rfl,Out.mP Tryz.results23 ?_ ?_⟩
  ·have g:n<1∨b.length=0:=(by simp at h24;simpa using h24);rw[ay_,if_pos g]
  trivial
 refine .skip (.seq (.rg [] ?_ (h:=by simp only[go_sem,seval,ac_ (show -9223372036854775808≤p by omega) (by omega),Int.add_sub_cancel];rfl)))
 refine .seq (.seq (.rg [] ?_))
 refine .cB (fun h36=>?_) fun h36=>?_
 ·refine .seq (.rgo [] ?_ ?_ (h:=by simp only[go_sem,seval,aaq_ (show p.toNat<b.length by simp at h36;omega),a0m_];rfl))
  ·((simp at h24 h36;refine⟨⟨hp,by omega⟩,by omega⟩))
  refine .ret ⟨.inr rfl,Out.mP Tryz.results23 ?_ ?_⟩
  ·have g:¬(n<1∨b.length=0):=(by simp at h24;simp;omega);rw[ay_,if_neg g,if_pos (by simpa using h36)]
  trivial
 refine .skip (.seq (.rgDo [] ?_ ?_ (h:=by simp only[go_sem,seval,ac_ (show -9223372036854775808≤p * 7 by omega) (by omega),ac_ (show -9223372036854775808≤p * 7+3 by omega) (by omega),aaq_ (ak2_ (k:=p) hp (show 0<b.length by cases b<;>simp_all)),aaq_ (ak2_ (k:=p * 7+3) (by omega) (show 0<b.length by cases b<;>simp_all)),a0m_];rfl)))
 ·((have hb0:(0:Int)<b.length:=(by cases b with|nil=>simp at h24|cons c b=>simp);have q1:=Int.tmod_lt_of_pos p hb0;have q2:=Int.tmod_nonneg (b.length:Int) hp;have q3:=Int.tmod_lt_of_pos (p * 7+3) hb0;have q4:=Int.tmod_nonneg (b.length:Int) (show 0≤p * 7+3 by omega);refine⟨⟨⟨⟨by omega,q2,q1⟩,by omega⟩,q4,q3⟩,by omega⟩))
 refine .seq (.rg [] ?_)
 refine .seq (.rgo [] ?_ ?_)
 ·((simp at h24;simp;omega))
 refine .ret ⟨.inr rfl,Out.mP Tryz.results23 ?_ ?_⟩
 ·have g:¬(n<1∨b.length=0):=(by simp at h24;simp;omega);rw[ay_,if_neg g,if_neg (by simpa using h36)];rfl
 trivial
end
section
theorem axr_ (b:Str) {p:Int} (hp:0≤p) (hp2:p<1099511627776):0≤xo_ b p∧xo_ b p<4611686018427387904:=by
 have c1:=UInt8.toNat_lt (b.getD (p.tmod b.length).toNat 0)
 have c2:=UInt8.toNat_lt (b.getD ((p * 7+3).tmod b.length).toNat 0)
 have d1:0≤p.tdiv b.length:=Int.tdiv_nonneg hp (Int.natCast_nonneg _)
 have d2:p.tdiv b.length≤p:=by rw[Int.tdiv_eq_ediv_of_nonneg hp];exact Int.ediv_le_self _ hp
 unfold xo_ wr
 generalize (b.getD (p.tmod b.length).toNat 0).toNat=x at *
 generalize (b.getD ((p * 7+3).tmod b.length).toNat 0).toNat=y at *
 generalize p.tdiv b.length=q at *
 rw[ac_ (n:=(x:Int) * 131) (by omega) (by omega),ac_ (n:=(y:Int) * 1117) (by omega) (by omega),ac_ (n:=p * 29) (by omega) (by omega),ac_ (n:=q) (by omega) (by omega),
  ac_ (n:=q * 53) (by omega) (by omega),ac_ (n:=(x:Int) * 131+y * 1117) (by omega) (by omega),ac_ (n:=(x:Int) * 131+y * 1117+p * 29) (by omega) (by omega),ac_ (by omega) (by omega)]
 omega
theorem atu_ (b:Str) {p:Int} (hp:0≤p) (hp2:p<1099511627776):0≤mixX b p:=by
 obtain⟨h1,h2⟩:=axr_ b hp hp2
 have d1:0≤(xo_ b p).tdiv 64:=Int.tdiv_nonneg h1 (by decide)
 have d2:(xo_ b p).tdiv 64≤xo_ b p:=by rw[Int.tdiv_eq_ediv_of_nonneg h1];exact Int.ediv_le_self _ h1
 unfold mixX
 generalize (xo_ b p).tdiv 64=q at *
 generalize xo_ b p=m at *
 rw[ac_ (n:=q) (by omega) (by omega)]
 have e1:(BitVec.ofInt IntKind.i64.bits m).toNat<2 ^ 62:=by
  rw[BitVec.toNat_ofInt]
  have:m % ((2 ^ IntKind.i64.bits:Nat):Int)=m:=Int.emod_eq_of_lt h1 (by show m<18446744073709551616;omega)
  rw[this];omega
 have e2:(BitVec.ofInt IntKind.i64.bits q).toNat<2 ^ 62:=by
  rw[BitVec.toNat_ofInt]
  have:q % ((2 ^ IntKind.i64.bits:Nat):Int)=q:=Int.emod_eq_of_lt d1 (by show q<18446744073709551616;omega)
  rw[this];omega
 have e3:=Nat.xor_lt_two_pow e1 e2
 rw[←BitVec.toNat_xor]at e3
 rw[ac_ (by omega) (by omega)]
 omega
theorem cl_ (b:Str) {p n:Int} (hp:0≤p) (hp2:p<1099511627776) (hn:1≤n):0≤ay_ b p n∧ay_ b p n<n:=by
 unfold ay_
 split
 ·omega
 split
 ·exact⟨Int.tmod_nonneg _ (by omega),Int.tmod_lt_of_pos _ (by omega)⟩
 exact⟨Int.tmod_nonneg _ (atu_ b hp hp2),Int.tmod_lt_of_pos _ (by omega)⟩
def inR (l:List Int):List (List V):=l.map fun n=>[.i .i64 n]
theorem a2_ (l:List Int):(inR l).length=l.length:=by simp[inR]
theorem c1_ {l:List Int} {k:Nat} (h:k<l.length):(inR l).getD k []=[.i .i64 (l.getD k 0)]:=by
 simp[inR,List.getD_eq_getElem?_getD,List.getElem?_eq_getElem h]
theorem al_:∀l:List Int,bg_ (inR l)=true
 |[]=>rfl
 |n::l=>by simp only[inR,List.map_cons,bg_,bu_,V.pure,Bool.true_and];exact al_ l
theorem ho_:inR []=[]:=rfl
theorem eo_ (n:Int) (l:List Int):inR (n::l)=[.i .i64 n]::inR l:=rfl
theorem e3_:ai_ []=[]:=rfl
theorem ep_ (s:Str) (l:List Str):ai_ (s::l)=[.s s]::ai_ l:=rfl
def ob_ (b:Str) (p:Int) (l:List Int):Int:=l.getD (ay_ b p l.length).toNat 0
def ofI (b:Str) (p:Int) (l:List Str):Str:=l.getD (ay_ b p l.length).toNat []
theorem w5_ (b:Str) (p:Int) (l:List Int) (hl:0<l.length) (hb:b.length≤2000) (hp:0≤p) (hp2:p<1099511627776) :
  ACall En 29 [.pt 0 2 0 0,.sl false (inR l)] [⟨83,2,[[.sl false (byR b),.i .i64 p]]⟩] [.i .i64 (ob_ b p l)] [⟨83,2,[[.sl false (byR b),.i .i64 (p+1)]]⟩]:=by
 have hr:=cl_ b hp hp2 (show 1≤(l.length:Int) by omega)
 refine aa_ [0] Tryz.func29 Tryz.ntmps29 fun C=>?_
 refine .seq (.rg [] ?_)
 refine .seq (.rgo [at_ [0] [] (c5_ b p l.length hb hp hp2)] ?_ ?_ (h:=by simp only[go_sem,seval,aw_,a5_,a2_,al_,c1_ (show(ay_ b p l.length).toNat<l.length by omega)];rfl))
 ·simp;omega
 refine .ret ⟨.inr rfl,Out.mP Tryz.results29 ?_ ?_⟩
 ·rfl
 trivial
theorem pt_ (b:Str) (p:Int) (l:List Str) (hl:0<l.length) (hb:b.length≤2000) (hp:0≤p) (hp2:p<1099511627776) :
  ACall En 26 [.pt 0 2 0 0,.sl false (ai_ l)] [⟨83,2,[[.sl false (byR b),.i .i64 p]]⟩] [.s (ofI b p l)] [⟨83,2,[[.sl false (byR b),.i .i64 (p+1)]]⟩]:=by
 have hr:=cl_ b hp hp2 (show 1≤(l.length:Int) by omega)
 refine aa_ [0] Tryz.func26 Tryz.ntmps26 fun C=>?_
 refine .seq (.rg [] ?_)
 refine .seq (.rgo [at_ [0] [] (c5_ b p l.length hb hp hp2)] ?_ ?_ (h:=by simp only[go_sem,seval,aw_,a5_,af_,an_ (show(ay_ b p l.length).toNat<l.length by omega)];rfl))
 ·simp;omega
 refine .ret ⟨.inr rfl,Out.mP Tryz.results26 ?_ ?_⟩
 ·rfl
 trivial
end
section
theorem asm_ (p:UInt8→Bool):∀(s:Str) (k:Nat),k≤s.length→(s.take k).all p=true→(∀c,s[k]? = some c→p c=false)→(s.takeWhile p).length=k
 |[],k,h,_,_=>by simp at h;simp[h]
 |c::s,0,_,_,h=>by simp[h c (by simp)]
 |c::s,k+1,h,h1,h2=>by
  simp only[List.take_succ_cons,List.all_cons,Bool.and_eq_true]at h1
  rw[List.takeWhile_cons_of_pos h1.1,List.length_cons,asm_ p s k (by simpa using h) h1.2 (by simpa using h2)]
theorem afg_ (p:UInt8→Bool) (s:Str) (k:Nat) (h:k<s.length):(s.take (k+1)).all p=((s.take k).all p&&p (s.getD k 0)):=by
 rw[List.take_add_one,List.getElem?_eq_getElem h,List.all_append,List.getD_eq_getElem?_getD,List.getElem?_eq_getElem h]
 simp
theorem aro_ (p:UInt8→Bool) (F:Nat) (hF:∀c:UInt8,ACall En F [.i .u8 c.toNat] [] [.b (p c)] []) (s:Str) (hs:s.length<4611686018427387904):ACall En 249 [.s s,.fn (.func F) [] []] [] [.i .i64 (s.takeWhile p).length] []:=by
 refine aa_ [] Tryz.func249 Tryz.ntmps249 fun C=>?_
 refine .seq (.rg [] ?_)
 refine .seq (.rg [] ?_)
 refine .seq (.block (.loopK (fun k:Nat=>⟨[.s s,.fn (.func F) [] [],.no,.no,.i .i64 0,.i .i64 k,.no,.no,.no,.no,.no,.no,.no,.no,.no,.no,.no,.no,.no,.no],ae_ [],us []⟩) (fun k:Nat=>k≤s.length∧(s.take k).all p=true) (fun k:Nat=>s.length - k) (0) ?_ ?_ (fun k hI=>?_)))
 ·simp
 ·refine Can.wh ?_;trivial
 refine .seq (.seq (.rg [ab_ (hF (s.getD k 0))] ?_))
 refine .cB (fun h16=>?_) fun h16=>?_
 ·refine .skip (.block (.rg [] ?_))
  refine⟨k+1,?_,?_,?_⟩
  ·have h2:k<s.length∧p (s.getD k 0)=true:=(by simpa using h16);exact⟨by omega,by rw[afg_ p s k h2.1,hI.2,h2.2];rfl⟩
  ·have h2:k<s.length∧p (s.getD k 0)=true:=(by simpa using h16);omega
  refine Can.wh ?_;rw[ac_ (by omega) (by omega)];simp
 refine .exit (.seq (.rg [] ?_))
 refine .ret ⟨.inr rfl,Out.pP Tryz.results249 ?_⟩;rw[asm_ p s k hI.1 hI.2];intro c hc;have:=(List.getElem?_eq_some_iff.1 hc).1;simp_all
end
section
theorem uc_ {l:List Str} {s:Str} {k:Nat} (h:k<l.length) (h1:∀x∈l.take k,x≠s) (h2:l.getD k []=s):s∈l∧l.idxOf s=k:=by
 rw[List.getD_eq_getElem?_getD,List.getElem?_eq_getElem h]at h2
 simp only[Option.getD_some]at h2
 refine⟨by rw[←h2];exact List.getElem_mem h,?_⟩
 have e:=List.take_append_drop k l
 rw[List.drop_eq_getElem_cons h,h2]at e
 have hn:¬s∈l.take k:=fun hm=>h1 _ hm rfl
 rw[←e,List.idxOf_append,if_neg hn]
 simp[List.length_take,Nat.min_eq_left (Nat.le_of_lt h)]
theorem acg_ (l:List Str) (s:Str) (hl:l.length<4611686018427387904):ACall En 196 [.sl false (ai_ l),.s s] [] [.i .i64 (bh_ l s)] []:=by
 refine aa_ [] Tryz.func196 Tryz.ntmps196 fun C=>?_
 refine .seq (.rg [] ?_)
 refine .seq (.seq (.rg [] ?_))
 refine .block (.loopK (fun k:Nat=>⟨[.sl false (ai_ l),.s s,.no,.no,.i .i64 0,.no,.no,.i .i64 l.length,.i .i64 k,.no,.no,.no,.no,.no,.no,.no,.no,.no,.no],ae_ [],us []⟩) (fun k:Nat=>k≤l.length∧∀x∈l.take k,x≠s) (fun k:Nat=>l.length - k) (0) ?_ ?_ (fun k hI=>?_))
 ·simp
 ·refine Can.wh ?_;trivial
 refine .seq (.rg [] ?_)
 refine .seq (.cB (fun h9=>?_) fun h9=>?_)
 ·refine .skip (.seq (.block (.seq (.rg [] ?_))))
  refine .seq (.rgo [] ?_ ?_ (h:=by simp only[go_sem,seval,an_ (show k<l.length by simpa using h9)];rfl))
  ·simp at h9;simp[af_,h9]
  refine .cB (fun h16=>?_) fun h16=>?_
  ·refine .seq (.rg [] ?_)
   refine .ret ⟨.inr rfl,Out.pP Tryz.results196 ?_⟩;simp at h9;obtain⟨g1,g2⟩:=uc_ h9 hI.2 (by simpa using(eq_of_beq h16).symm);simp[bh_,g1,g2]
  refine .skip (.rg [] ?_)
  refine⟨k+1,?_,?_,?_⟩
  ·simp at h9;refine⟨by omega,fun x hx=>?_⟩;rw[List.take_add_one,List.mem_append,List.getElem?_eq_getElem h9]at hx;rcases hx with hx|hx;exact hI.2 x hx;simp at hx;subst hx;simp[List.getD_eq_getElem?_getD,List.getElem?_eq_getElem h9]at h16;exact fun e=>h16 e.symm
  ·simp at h9;omega
  refine Can.wh ?_;rw[ac_ (by omega) (by omega)];simp
 refine .exit (.seq (.rg [] ?_))
 refine .ret ⟨.inr rfl,Out.pP Tryz.results196 ?_⟩;simp at h9;have:¬s∈l:=fun hm=>hI.2 s (by rw[List.take_of_length_le h9];exact hm) rfl;simp[bh_,this]
theorem oc_ (l:List Str) (s:Str) (hl:l.length<4611686018427387904):ACall En 259 [.sl false (ai_ l),.s s] [] [.b (l.contains s)] []:=by
 refine aa_ [] Tryz.func259 Tryz.ntmps259 fun C=>?_
 refine .seq (.rg [] ?_)
 refine .seq (.rg [ab_ (acg_ l s hl)] ?_)
 refine .ret ⟨.inr rfl,Out.pP Tryz.results259 ?_⟩;by_cases h:s∈l<;>simp[bh_,h]
end
section
theorem aoi_ {p:UInt8→Bool} {s:Str} {k:Nat} (h:k<s.length) (hp:p (s.getD k 0)=false):s.all p=false:=by
 rw[List.all_eq_false];exact⟨_,ag_ h,by rw[hp];simp⟩
theorem nr_ (p:UInt8→Bool):∀s:Str,((s.takeWhile p).length==s.length)=s.all p
 |[]=>rfl
 |c::s=>by
  have:=nr_ p s
  simp only[List.takeWhile_cons,List.all_cons]
  cases p c<;>simp_all
theorem at2_ (s:Str):ownW.contains s=jm_ s:=by
 simp only[ownW,jm_,ey_,List.contains_cons,List.contains_nil,Bool.or_false]
 simp only[Bool.or_assoc]
theorem apo_ (s:Str):(decide ((s.length:Int) ≥ 1)&&decide ((s.length:Int)≤8))=(decide (1≤s.length)&&decide (s.length≤8)):=by
 congr 1<;>exact decide_eq_decide.2 (by omega)
theorem ane_ (s:Str):(decide (1≤(s.length:Int))&&decide ((s.length:Int)≤8))=(decide (1≤s.length)&&decide (s.length≤8)):=by
 congr 1<;>exact decide_eq_decide.2 (by omega)
theorem o8_ (a b:Nat):((a:Int)==(b:Int))=(a==b):=by
 cases h:a==b<;>simp_all<;>omega
theorem aez_ (s:Str) (hs:s.length<4611686018427387904):ACall En 168 [.s s] [] [.b (e4_ s)] []:=by
 refine aa_ [] Tryz.func168 Tryz.ntmps168 fun C=>?_
 refine .seq (.rg [] ?_)
 refine .seq (.seq (.rg [] ?_))
 refine .block (.loopK (fun k:Nat=>⟨[.s s,.no,.b false,.i .i64 k,.no,.no,.no,.no,.no,.no,.no,.no,.no,.no,.no,.no,.no,.no,.no,.no,.no,.no,.no,.no,.no,.no,.no,.no],ae_ [],us []⟩) (fun k:Nat=>k≤s.length∧(s.take k).all cd_=true) (fun k:Nat=>s.length - k) (0) ?_ ?_ (fun k hI=>?_))
 ·simp
 ·refine Can.wh ?_;trivial
 refine .seq (.seq (.rg [] ?_))
 refine .cB (fun h7=>?_) fun h7=>?_
 ·refine .skip (.seq (.block (.seq (.rgo [] ?_ ?_))))
  ·simp at h7;simp;omega
  refine .cB (fun h19=>?_) fun h19=>?_
  ·refine .seq (.rg [] ?_)
   refine .ret ⟨.inr rfl,Out.pP Tryz.results168 ?_⟩;simp at h7;rw[e4_,aoi_ h7 (by rw[cd_];simp at h19 ⊢;omega)];rfl
  refine .skip (.rg [] ?_)
  refine⟨k+1,?_,?_,?_⟩
  ·simp at h7;exact⟨by omega,by rw[afg_ cd_ s k h7,hI.2,cd_];simp at h19 ⊢;omega⟩
  ·simp at h7;omega
  refine Can.wh ?_;rw[ac_ (by simp at h7;omega) (by simp at h7;omega)];simp
 refine .exit (.seq (.rg [] ?_))
 refine .ret ⟨.inr rfl,Out.pP Tryz.results168 ?_⟩;simp at h7;have e:=hI.2;rw[List.take_of_length_le h7]at e;rw[e4_,e,apo_];simp
theorem p6_ (s:Str) (hs:s.length<4611686018427387904):ACall En 102 [.s s] [] [.b (gi_ s)] []:=by
 refine aa_ [] Tryz.func102 Tryz.ntmps102 fun C=>?_
 refine .seq (.rgo [] ?_ ?_)
 ·simp
 refine .seq (.rgo [ab_ (aez_ s hs),ab_ (ars_ s)] ?_ ?_)
 ·simp
 refine .ret ⟨.inr rfl,Out.pP Tryz.results102 ?_⟩;rfl
theorem agp_ (s:Str) (hs:s.length<4611686018427387904):ACall En 258 [.i .i64 1,.s s] [] [.b (e4_ s)] []:=by
 refine aa_ [] Tryz.func258 Tryz.ntmps258 fun C=>?_
 refine .seq (.rgo [] ?_ ?_)
 ·simp
 refine .seq (.seq (.rgo [] ?_ ?_))
 ·simp
 refine .block (.seq (.rgo [] ?_ ?_))
 ·simp
 refine .cB (fun h8=>?_) fun h8=>?_
 ·refine .seq (.rgo [ab_ (ta_ s.length 1 8),ab_ (aro_ cd_ 250 u8_ s hs)] ?_ ?_)
  ·simp
  refine .ret ⟨.inr rfl,Out.pP Tryz.results258 ?_⟩;rw[e4_,ane_,o8_,nr_];cases s.all cd_<;>simp
 exact absurd h8 (by simp)
theorem o7_ (s:Str) (hs:s.length<4611686018427387904):ACall En 198 [.s s] [] [.b (gi_ s)] []:=by
 refine aa_ [] Tryz.func198 Tryz.ntmps198 fun C=>?_
 refine .seq (.rg [] ?_)
 refine .seq (.rgo [ab_ (agp_ s hs),ab_ (oc_ ownW s (by decide))] ?_ ?_)
 ·simp
 refine .ret ⟨.inr rfl,Out.pP Tryz.results198 ?_⟩;rw[at2_];rfl
end
section
theorem akt_ {xs ys:List E} {k:Nat} (h1:k<xs.length) (h2:k<ys.length):(xs.zip ys)[k]? = some (xs.getD k E0,ys.getD k E0):=by
 rw[List.getElem?_eq_getElem (by simp;omega)]
 simp[List.getD_eq_getElem?_getD,List.getElem?_eq_getElem h1,List.getElem?_eq_getElem h2]
theorem ad8_ {xs ys:List E} {k:Nat} (f:E × E→Bool) (h1:k<xs.length) (h2:k<ys.length):((xs.zip ys).take (k+1)).all f=(((xs.zip ys).take k).all f&&f (xs.getD k E0,ys.getD k E0)):=by
 rw[List.take_add_one,akt_ h1 h2,List.all_append];simp
theorem ake_ {xs ys:List E} {k:Nat} (f:E × E→Bool) (h1:k<xs.length) (h2:k<ys.length) (h:f (xs.getD k E0,ys.getD k E0)=false):(xs.zip ys).all f=false:=by
 rw[List.all_eq_false];exact⟨_,List.mem_of_getElem? (akt_ h1 h2),by rw[h];simp⟩
theorem afo_ (p:E→E→Bool) (F:Nat) (xs ys:List E) (hF:∀x∈xs,∀y∈ys,ACall En F [.ag (eC x),.ag (eC y)] [] [.b (p x y)] []) (hx:xs.length<4611686018427387904) (hy:ys.length<4611686018427387904) :
  ACall En 295 [.sl false (eR xs),.sl false (eR ys),.fn (.func F) [] []] [] [.b (decide (xs.length=ys.length)&&(xs.zip ys).all fun q=>p q.1 q.2)] []:=by
 refine aa_ [] Tryz.func295 Tryz.ntmps295 fun C=>?_
 refine .seq (.rg [] ?_)
 refine .seq (.seq (.rg [] ?_))
 refine .cB (fun h14=>?_) fun h14=>?_
 ·refine .seq (.rg [] ?_)
  refine .ret ⟨.inr rfl,Out.pP Tryz.results295 ?_⟩;simp at h14;simp;omega
 refine .skip (.seq (.seq (.rg [] ?_)))
 refine .block (.loopK (fun k:Nat=>⟨[.sl false (eR xs),.sl false (eR ys),.fn (.func F) [] [],.no,.no,.no,.b false,.no,.no,.no,.no,.no,.no,.no,.no,.sl false (eR xs),.i .i64 xs.length,.i .i64 k,.no,.no,.no,.no,.no,.no,.no,.no,.no,.no,.no,.no,.no,.no],ae_ [],us []⟩) (fun k:Nat=>k≤xs.length∧((xs.zip ys).take k).all (fun q=>p q.1 q.2)=true) (fun k:Nat=>xs.length - k) (0) ?_ ?_ (fun k hI=>?_))
 ·simp
 ·refine Can.wh ?_;trivial
 refine .seq (.rg [] ?_)
 refine .seq (.cB (fun h18=>?_) fun h18=>?_)
 ·refine .skip (.seq (.block (.seq (.rgo [] ?_ ?_ (h:=by simp only[go_sem,seval,b8_ (show k<xs.length by simpa using h18)];rfl)))))
  ·simp at h18;simp[h18]
  refine .seq (.rgo [] ?_ ?_ (h:=by simp only[go_sem,seval,b8_ (show k<ys.length by simp at h14 h18;omega)];rfl))
  ·simp at h14 h18;simp;omega
  refine .seq (.rg [ab_ (hF (xs.getD k E0) (ag_ (by simpa using h18)) (ys.getD k E0) (ag_ (by simp at h14 h18;omega)))] ?_)
  refine .cB (fun h30=>?_) fun h30=>?_
  ·refine .seq (.rg [] ?_)
   refine .ret ⟨.inr rfl,Out.pP Tryz.results295 ?_⟩;simp at h14 h18;rw[ake_ _ h18 (by omega) (by simpa using h30)];simp
  refine .skip (.rg [] ?_)
  refine⟨k+1,?_,?_,?_⟩
  ·simp at h14 h18;exact⟨by omega,by rw[ad8_ _ h18 (by omega),hI.2];simpa using h30⟩
  ·simp at h18;omega
  refine Can.wh ?_;rw[ac_ (by simp at h18;omega) (by simp at h18;omega)];simp
 refine .exit (.seq (.rg [] ?_))
 refine .ret ⟨.inr rfl,Out.pP Tryz.results295 ?_⟩;simp at h14 h18;have:=hI.2;rw[List.take_of_length_le (by simp;omega)]at this;rw[this];simp;omega
theorem kb_:∀xs ys:List E,same.sameL xs ys=(decide (xs.length=ys.length)&&(xs.zip ys).all fun q=>same q.1 q.2)
 |[],[]=>rfl
 |[],_::_=>by simp[same.sameL]
 |_::_,[]=>by simp[same.sameL]
 |x::xs,y::ys=>by
  simp only[same.sameL,kb_ xs ys,List.zip_cons_cons,List.all_cons,List.length_cons,Nat.add_right_cancel_iff]
  cases same x y<;>simp
end
section
theorem sv_ (x:E):∀y,sm x=true→sm y=true→ACall En 257 [.ag (eC x),.ag (eC y)] [] [.b (same x y)] []:=by
 induction x using E.ind' with
 |h x ih=>
 intro y hx hy
 obtain⟨a1,a2,a3⟩:=fg_ hx
 obtain⟨b1,b2,b3⟩:=fg_ hy
 refine aa_ [] Tryz.func257 Tryz.ntmps257 fun C=>?_
 refine .seq (.rg [] ?_)
 refine .seq (.rgo [ab_ (afo_ same 257 x.kids y.kids (fun u hu v hv=>ih u hu v (cj_ a3 u hu) (cj_ b3 v hv)) a2 b2)] ?_ ?_)
 ·simp
 refine .ret ⟨.inr rfl,Out.pP Tryz.results257 ?_⟩;rw[t8_,kb_]
theorem afw_ (x:E):∀y,sm x=true→sm y=true→ACall En 167 [.ag (eC x),.ag (eC y)] [] [.b (same x y)] []:=by
 induction x using E.ind' with
 |h x ih=>
 intro y hx hy
 obtain⟨a1,a2,a3⟩:=fg_ hx
 obtain⟨b1,b2,b3⟩:=fg_ hy
 refine aa_ [] Tryz.func167 Tryz.ntmps167 fun C=>?_
 refine .seq (.rg [] ?_)
 refine .seq (.seq (.rgo [] ?_ ?_))
 ·simp
 refine .cB (fun h33=>?_) fun h33=>?_
 ·refine .seq (.rg [] ?_)
  refine .ret ⟨.inr rfl,Out.pP Tryz.results167 ?_⟩;simp at h33;rw[t8_,kb_];rcases h33 with((h33|h33)|h33)|h33<;>simp[h33]<;>omega
 refine .skip (.seq (.seq (.rg [] ?_)))
 refine .block (.loopK (fun k:Nat=>⟨[.no,.no,.pt 12 4 0 0,.pt 13 4 0 0,.b false,.i .i64 k,.no,.no,.no,.no,.no,.no,.no,.no,.no,.no,.no,.no,.no,.no,.no,.no,.no,.no,.no,.no,.no,.no,.no,.no,.no,.no,.no,.no,.no,.no,.no,.no,.no,.no,.no,.no,.no,.no,.no,.no,.no,.no,.no,.no,.no,.no,.no],ae_ [(12,⟨56,4,[eC x]⟩),(13,⟨56,4,[eC y]⟩)],us [12,13]⟩) (fun k:Nat=>k≤x.kids.length∧((x.kids.zip y.kids).take k).all (fun q=>same q.1 q.2)=true) (fun k:Nat=>x.kids.length - k) (0) ?_ ?_ (fun k hI=>?_))
 ·simp
 ·refine Can.wh ?_;trivial
 refine .seq (.seq (.rg [] ?_))
 refine .cB (fun h38=>?_) fun h38=>?_
 ·refine .skip (.seq (.block (.seq (.rgDo [ab_ (ih (x.kids.getD k E0) (ag_ (by simpa using h38)) (y.kids.getD k E0) (cj_ a3 _ (ag_ (by simpa using h38))) (cj_ b3 _ (ag_ (by simp at h33 h38;omega))))] ?_ ?_ (h:=by simp only[go_sem,seval,b8_ (show k<x.kids.length by simpa using h38),b8_ (show k<y.kids.length by simp at h33 h38;omega)];rfl)))))
  ·simp at h33 h38;simp;omega
  refine .cB (fun h52=>?_) fun h52=>?_
  ·refine .seq (.rg [] ?_)
   refine .ret ⟨.inr rfl,Out.pP Tryz.results167 ?_⟩;simp at h33 h38;rw[t8_,kb_,ake_ _ h38 (by omega) (by simpa using h52)];simp
  refine .skip (.rg [] ?_)
  refine⟨k+1,?_,?_,?_⟩
  ·simp at h33 h38;exact⟨by omega,by rw[ad8_ _ h38 (by omega),hI.2];simpa using h52⟩
  ·simp at h38;omega
  refine Can.wh ?_;rw[ac_ (by simp at h38;omega) (by simp at h38;omega)];simp
 refine .exit (.seq (.rg [] ?_))
 refine .ret ⟨.inr rfl,Out.pP Tryz.results167 ?_⟩;simp at h33 h38;rw[t8_,kb_];have e:=hI.2;rw[List.take_of_length_le (by simp;omega)]at e;rw[e];simp[h33];omega
end
section
theorem afq_ (e:E):∀d:Int, -4611686018427387904<d→d<4611686018427387904→sm e=true→ACall En 170 [.ag (eC e),.i .i64 d] [] [.b (form e d)] []:=by
 induction e using E.ind' with
 |h e ih=>
 intro d hd1 hd2 hs
 obtain⟨a1,a2,a3⟩:=fg_ hs
 refine aa_ [] Tryz.func170 Tryz.ntmps170 fun C=>?_
 refine .seq (.rg [] ?_)
 refine .seq (.seq (.rg [] ?_))
 refine .cB (fun h9=>?_) fun h9=>?_
 ·refine .seq (.rg [] ?_)
  refine .ret ⟨.inr rfl,Out.pP Tryz.results170 ?_⟩;rw[mq_];simp at h9;simp;omega
 refine .skip (.seq (.rg [] ?_))
 refine .seq (.rg [] ?_)
 refine .seqJ (fun q:Bool × Nat=>⟨[.no,.i .i64 d,.pt 12 4 0 0,.no,.b false,.b q.1,.i .i64 q.2,.no,.no,.no,.no,.no,.no,.no,.no,.no,.no,.no,.no,.no,.no,.no,.no,.no,.no,.no,.no,.no,.no,.no,.no,.no,.no,.no,.no,.no,.no,.no,.no,.no,.no,.no,.no,.no,.no,.no,.no,.no,.no,.no,.no,.no,.no,.no,.no,.no,.no,.no,.no,.no,.no,.no,.no,.no,.no,.no,.no,.no,.no,.no,.no,.no,.no,.no,.no,.no,.no,.no,.no,.no],ae_ [(12,⟨56,4,[eC e]⟩)],us [12]⟩) (fun q:Bool × Nat=>(q.1&&(e.kids.length==q.2))=shape e.kind e.n e.s e.kids.length) ?_ (fun q hJ=>?_)
 ·refine .seq (.rg [] ?_)
  refine .block (.seq (.rg [] ?_))
  refine .cB (fun h12=>?_) fun h12=>?_
  ·refine .rgo [] ?_ ?_
   ·simp
   refine Exists.intro ((decide (e.n ≥ 0)&&decide (e.n≤1000000)&&e.s==[],0)) ⟨?_,?_⟩
   ·simp_all[shape]
   refine Can.wh ?_;trivial
  refine .seq (.rg [] ?_)
  refine .cB (fun h27=>?_) fun h27=>?_
  ·refine .rgo [ab_ (p6_ e.s a1)] ?_ ?_
   ·simp
   refine Exists.intro ((e.n==0&&gi_ e.s,0)) ⟨?_,?_⟩
   ·simp_all[shape]
   refine Can.wh ?_;trivial
  refine .seq (.rg [] ?_)
  refine .cB (fun h37=>?_) fun h37=>?_
  ·refine .seq (.rgo [ab_ (arv_ e.s)] ?_ ?_)
   ·simp
   refine .rg [] ?_
   refine Exists.intro ((e.n==0&&fn_ e.s,2)) ⟨?_,?_⟩
   ·simp_all[shape]
   refine Can.wh ?_;trivial
  refine .seq (.rg [] ?_)
  refine .cB (fun h47=>?_) fun h47=>?_
  ·refine .seq (.rgo [ab_ (p7_ e.s)] ?_ ?_)
   ·simp
   refine .rg [] ?_
   refine Exists.intro ((e.n==0&&ey_ e.s,1)) ⟨?_,?_⟩
   ·simp_all[shape]
   refine Can.wh ?_;trivial
  refine .skip ?_
  refine Exists.intro ((false,0)) ⟨?_,?_⟩
  ·simp_all[shape]
  refine Can.wh ?_;trivial
 refine .seq (.seq (.rgo [] ?_ ?_))
 ·simp
 refine .cB (fun h65=>?_) fun h65=>?_
 ·refine .seq (.rg [] ?_)
  refine .ret ⟨.inr rfl,Out.pP Tryz.results170 ?_⟩;rw[mq_,←hJ];simp at h65;cases hq:q.1<;>simp_all;intro h;rw[←hJ]at h;simp at h;omega
 refine .skip (.seq (.seq (.rg [] ?_)))
 refine .block (.loopK (fun k:Nat=>⟨[.no,.i .i64 d,.pt 12 4 0 0,.no,.b false,.no,.i .i64 e.kids.length,.i .i64 k,.no,.no,.no,.no,.no,.no,.no,.no,.no,.no,.no,.no,.no,.no,.no,.no,.no,.no,.no,.no,.no,.no,.no,.no,.no,.no,.no,.no,.no,.no,.no,.no,.no,.no,.no,.no,.no,.no,.no,.no,.no,.no,.no,.no,.no,.no,.no,.no,.no,.no,.no,.no,.no,.no,.no,.no,.no,.no,.no,.no,.no,.no,.no,.no,.no,.no,.no,.no,.no,.no,.no,.no],ae_ [(12,⟨56,4,[eC e]⟩)],us [12]⟩) (fun k:Nat=>k≤e.kids.length∧ck_ e.kids (d - 1)=ck_ (e.kids.drop k) (d - 1)) (fun k:Nat=>e.kids.length - k) (0) ?_ ?_ (fun k hI=>?_))
 ·simp
 ·refine Can.wh ?_;simp at h65;(try simp);omega
 refine .seq (.seq (.rg [] ?_))
 refine .cB (fun h68=>?_) fun h68=>?_
 ·refine .skip (.seq (.block (.seq (.rgo [ab_ (ih (e.kids.getD k E0) (ag_ (by simpa using h68)) (d - 1) (by simp at h9;omega) (by omega) (cj_ a3 _ (ag_ (by simpa using h68))))] ?_ ?_ (h:=by simp only[go_sem,seval,b8_ (show k<e.kids.length by simpa using h68),ac_ (show -9223372036854775808≤d - 1 by omega) (by omega)];rfl)))))
  ·simp at h68;simp;omega
  refine .cB (fun h79=>?_) fun h79=>?_
  ·refine .seq (.rg [] ?_)
   refine .ret ⟨.inr rfl,Out.pP Tryz.results170 ?_⟩;simp at h68;rw[mq_,hI.2,ui_ h68,←in_ h68];simp_all
  refine .skip (.rg [] ?_)
  refine⟨k+1,?_,?_,?_⟩
  ·simp at h68;refine⟨by omega,?_⟩;rw[hI.2,ui_ h68,←in_ h68];simp_all
  ·simp at h68;omega
  refine Can.wh ?_;rw[ac_ (by simp at h68;omega) (by simp at h68;omega)];simp
 refine .exit (.seq (.rg [] ?_))
 refine .ret ⟨.inr rfl,Out.pP Tryz.results170 ?_⟩;simp at h68;rw[mq_,←hJ,hI.2,anl_ h68];simp at h9;simp_all;omega
theorem axs_ (e:E) (d:Int):many e d=1+if 0<d then cg_ e.kids (d - 1)else 0:=by cases e;simp only[many,E.kids]
theorem avf_ {e:E} {d:Int} (h:form e d=true):ck_ e.kids (d - 1)=true∧1≤d:=by
 rw[mq_]at h;simp at h;exact⟨h.2,h.1.1⟩
theorem aeb_ (e:E):∀d:Nat,d≤5→form e d=true→sm e=true→ACall En 171 [.ag (eC e),.i .i64 d] [] [.i .i64 (many e d)] []:=by
 induction e using E.ind' with
 |h e ih=>
 intro d hd hf hs
 obtain⟨a1,a2,a3⟩:=fg_ hs
 obtain⟨f1,f2⟩:=avf_ hf
 have hm:=pb_ e d hf
 have hp:(2:Int) ^ d≤32:=by
  have:d=0∨d=1∨d=2∨d=3∨d=4∨d=5:=by omega
  rcases this with rfl|rfl|rfl|rfl|rfl|rfl<;>decide
 have hb:many e d≤31:=by omega
 clear hp
 have hd1:((d - 1:Nat):Int)=d - 1:=by omega
 have hdr:∀k,0≤cg_ (e.kids.drop k) (d - 1):=fun k=>by
  have:=(o0_ (e.kids.drop k) (d - 1) (by rw[hd1];exact ajs_ k f1)).1
  rwa [hd1]at this
 have hmy:∀x∈e.kids,1≤many x (d - 1):=fun x hx=>by
  have:=(pb_ x (d - 1) (by rw[hd1];exact iv_ f1 x hx)).1
  rwa [hd1]at this
 refine aa_ [] Tryz.func171 Tryz.ntmps171 fun C=>?_
 refine .seq (.rg [] ?_)
 refine .seq (.rg [] ?_)
 refine .seq (.seq (.rg [] ?_))
 refine .block (.loopK (fun k:Nat × Int=>⟨[.no,.i .i64 d,.pt 12 4 0 0,.no,.i .i64 0,.i .i64 k.2,.i .i64 k.1,.no,.no,.no,.no,.no,.no,.no,.no,.no,.no,.no,.no,.no,.no,.no,.no,.no,.no,.no,.no,.no,.no],ae_ [(12,⟨56,4,[eC e]⟩)],us [12]⟩) (fun k:Nat × Int=>k.1≤e.kids.length∧k.2+cg_ (e.kids.drop k.1) (d - 1)=many e d∧1≤k.2) (fun k:Nat × Int=>e.kids.length - k.1) ((0,1)) ?_ ?_ (fun k hI=>?_))
 ·simp[axs_];omega
 ·refine Can.wh ?_;trivial
 refine .seq (.seq (.rgo [] ?_ ?_))
 ·simp
 refine .cB (fun h15=>?_) fun h15=>?_
 ·refine .skip (.seq (.block (.rgo [ab_ (hd1 ▸ ih (e.kids.getD k.1 E0) (ag_ (by simp at h15;omega)) (d - 1) (by omega) (by rw[hd1];exact iv_ f1 _ (ag_ (by simp at h15;omega))) (cj_ a3 _ (ag_ (by simp at h15;omega))))] ?_ ?_ (h:=by simp only[go_sem,seval,b8_ (show k.1<e.kids.length by simp at h15;omega),ac_ (show -9223372036854775808≤(d:Int) - 1 by omega) (by omega)];rfl))))
  ·simp at h15;simp;omega
  refine .rg [] ?_
  refine Exists.intro ((k.1+1,k.2+many (e.kids.getD k.1 E0) (d - 1))) ⟨?_,?_,?_⟩
  ·simp at h15;have e1:=ux_ h15.1 ((d:Int) - 1);rw[←in_ h15.1]at e1;have b2:=hmy _ (ag_ h15.1 (d:=E0));dsimp only;omega
  ·simp at h15;simp;omega
  refine Can.wh ?_;simp at h15;have e1:=ux_ h15.1 ((d:Int) - 1);rw[←in_ h15.1]at e1;have b1:=hdr (k.1+1);have b2:=hmy _ (ag_ h15.1 (d:=E0));exact⟨ac_ (by omega) (by omega),by rw[ac_ (by omega) (by omega)];omega⟩
 refine .exit (.seq (.rg [] ?_))
 refine .ret ⟨.inr rfl,Out.pP Tryz.results171 ?_⟩;simp at h15;have:e.kids.length≤k.1:=(by omega);have e1:=anc_ this ((d:Int) - 1);simp;omega
def E1:E:=.mk 1 0 [] []
theorem hf_ (e:E) (hs:sm e=true):ACall En 104 [.ag (eC e)] [] [.b (eok e)] []:=by
 cases hf:form e 5 with
 |true=>
 refine aa_ [] Tryz.func104 Tryz.ntmps104 fun C=>?_
 refine .seq (.rg [] ?_)
 refine .seq (.rg [ab_ (afq_ e 5 (by decide) (by decide) hs),ab_ (aeb_ e 5 (by decide) hf hs)] ?_)
 refine .ret ⟨.inr rfl,Out.pP Tryz.results104 ?_⟩;simp[eok,hf]
 |false=>
 refine aa_ [] Tryz.func104 Tryz.ntmps104 fun C=>?_
 refine .seq (.rg [] ?_)
 refine .seq (.rg [ab_ (afq_ e 5 (by decide) (by decide) hs),ab_ (aeb_ E1 1 (by decide) rfl rfl)] ?_ (h:=by simp only[go_sem,seval,hf];rfl))
 refine .ret ⟨.inr rfl,Out.pP Tryz.results104 ?_⟩;simp[eok,hf]
end
section
def iB (p:Int):Blk:=⟨3,1,[[.i .i64 p]]⟩
def ama_ (e:E):Prop:=∀d p:Int,0≤d→d≤6→0≤p→p≤12→ACall En 260 [.ag (eC e),.i .i64 d,.pt 0 1 0 0] [⟨3,1,[[.i .i64 p]]⟩] [.b (wlk e d p).1] [⟨3,1,[[.i .i64 (wlk e d p).2]]⟩]
theorem ax9_ (e:E) (h:ama_ e) (d p:Int) (h1:0≤d) (h2:d≤5) (h3:0≤p) (h4:p≤12) :
  ACall En 297 [.ag (eC e),.pt 0 1 0 0,.pt 1 1 0 0] [⟨3,1,[[.i .i64 d]]⟩,⟨201,1,[[.pt 2 1 0 0]]⟩,⟨3,1,[[.i .i64 p]]⟩]
   [.b (!(wlk e (d+1) p).1)] [⟨3,1,[[.i .i64 d]]⟩,⟨201,1,[[.pt 2 1 0 0]]⟩,⟨3,1,[[.i .i64 (wlk e (d+1) p).2]]⟩]:=by
 refine aa_ [0,1,2] Tryz.func297 Tryz.ntmps297 fun C=>?_
 refine .seq (.rg [] ?_)
 refine .seq (.rgo [at_ [2] [] (h (d+1) p (by omega) (by omega) h3 h4)] ?_ ?_ (h:=by simp only[go_sem,seval,ac_ (show -9223372036854775808≤d+1 by omega) (by omega),aw_,a5_];rfl))
 ·simp
 refine .ret ⟨.inr rfl,Out.mP Tryz.results297 ?_ ?_⟩
 ·trivial
 trivial
def wix:List E→Int→Int→Int→Int
 |[],_,_,_=> -1
 |e::r,d,p,k=>if (wlk e d p).1 then wix r d (wlk e d p).2 (k+1)else k
theorem ae2_ {kids:List E} {k:Nat} (h:k<kids.length) (d p j:Int):wix (kids.drop k) d p j=if (wlk kids[k] d p).1 then wix (kids.drop (k+1)) d (wlk kids[k] d p).2 (j+1)else j:=by
 rw[List.drop_eq_getElem_cons h];simp only[wix]
theorem akd_:∀(l:List E) (d p j:Int),0≤j→decide (wix l d p j ≥ 0)=!(gd_ l d p).1
 |[],d,p,j,h=>by simp[wix,gd_]
 |e::r,d,p,j,h=>by
  have ih:=akd_ r d (wlk e d p).2 (j+1) (by omega)
  have e1:wix (e::r) d p j=bif (wlk e d p).1 then wix r d (wlk e d p).2 (j+1)else j:=by simp only[wix];cases (wlk e d p).1<;>rfl
  have e2:gd_ (e::r) d p=bif (wlk e d p).1 then gd_ r d (wlk e d p).2 else(false,(wlk e d p).2):=by simp only[gd_];cases (wlk e d p).1<;>rfl
  rw[e2]
  simp only[e1]
  cases hc:(wlk e d p).1
  ·simp[h]
  exact ih
theorem aq8_ (kids:List E) (ih:∀e∈kids,ama_ e) (d p:Int) (h1:0≤d) (h2:d≤5) (h3:0≤p) (h4:p≤12) (hl:kids.length<4611686018427387904) :
  ACall En 313 [.sl false (eR kids),.fn (.func 297) [] [.pt 0 1 0 0,.pt 1 1 0 0]] [⟨3,1,[[.i .i64 d]]⟩,⟨201,1,[[.pt 2 1 0 0]]⟩,⟨3,1,[[.i .i64 p]]⟩]
   [.i .i64 (wix kids (d+1) p 0)] [⟨3,1,[[.i .i64 d]]⟩,⟨201,1,[[.pt 2 1 0 0]]⟩,⟨3,1,[[.i .i64 (gd_ kids (d+1) p).2]]⟩]:=by
 refine aa_ [0,1,2] Tryz.func313 Tryz.ntmps313 fun C=>?_
 refine .seq (.rg [] ?_)
 refine .seq (.seq (.rg [] ?_))
 refine .block (.loopK (fun k:Nat × Int=>⟨[.sl false (eR kids),.fn (.func 297) [] [.pt 0 1 0 0,.pt 1 1 0 0],.no,.no,.i .i64 0,.no,.no,.i .i64 kids.length,.i .i64 k.1,.no,.no,.no,.no,.no,.no,.no,.no,.no,.no],ae_ [(0,⟨3,1,[[.i .i64 d]]⟩),(1,⟨201,1,[[.pt 2 1 0 0]]⟩),(2,⟨3,1,[[.i .i64 k.2]]⟩)],us []⟩) (fun k:Nat × Int=>k.1≤kids.length∧0≤k.2∧k.2≤12∧gd_ kids (d+1) p=gd_ (kids.drop k.1) (d+1) k.2∧wix kids (d+1) p 0=wix (kids.drop k.1) (d+1) k.2 k.1) (fun k:Nat × Int=>kids.length - k.1) ((0,p)) ?_ ?_ (fun k hI=>?_))
 ·simp;omega
 ·refine Can.wh ?_;trivial
 refine .seq (.rg [] ?_)
 refine .seq (.cB (fun h9=>?_) fun h9=>?_)
 ·refine .skip (.seq (.block (.seq (.rg [] ?_))))
  refine .seq (.rgo [at_ [0,1,2] [] (ax9_ (kids.getD k.1 E0) (ih _ (ag_ (by simpa using h9))) d k.2 h1 h2 (by omega) (by omega))] ?_ ?_ (h:=by simp only[go_sem,seval,aw_,a5_,b8_ (show k.1<kids.length by simpa using h9)];rfl))
  ·simp at h9;simp;omega
  refine .cB (fun h16=>?_) fun h16=>?_
  ·refine .seq (.rg [] ?_)
   refine .ret ⟨.inr rfl,Out.mP Tryz.results313 ?_ ?_⟩
   ·simp at h9;have hw:(wlk (kids.getD k.1 E0) (d+1) k.2).1=false:=(by simpa using h16);rw[hI.2.2.2.2,ae2_ h9,←in_ h9,hw];simp
   simp at h9;have hw:(wlk (kids.getD k.1 E0) (d+1) k.2).1=false:=(by simpa using h16);rw[hI.2.2.2.1,y3_ h9,←in_ h9,hw];simp
  refine .skip (.rg [] ?_)
  refine Exists.intro ((k.1+1,(wlk (kids.getD k.1 E0) (d+1) k.2).2)) ⟨?_,?_,?_⟩
  ·simp at h9;obtain⟨g0,g1,g2,g3,g4⟩:=hI;rw[y3_ h9,←in_ h9]at g3;rw[ae2_ h9,←in_ h9]at g4;have hw:(wlk (kids.getD k.1 E0) (d+1) k.2).1=true:=(by simpa using h16);rw[hw]at g3 g4;have:=aul_ _ _ _ hw;exact⟨by dsimp only;omega,by dsimp only;omega,by dsimp only;omega,by simpa using g3,by simpa using g4⟩
  ·simp at h9;simp;omega
  refine Can.wh ?_;rw[ac_ (by simp at h9;omega) (by simp at h9;omega)];simp
 refine .exit (.seq (.rg [] ?_))
 refine .ret ⟨.inr rfl,Out.mP Tryz.results313 ?_ ?_⟩
 ·simp at h9;rw[hI.2.2.2.2,List.drop_of_length_le h9];simp[wix]
 simp at h9;rw[hI.2.2.2.1,ar2_ h9]
theorem sm_ (kids:List E) (ih:∀e∈kids,ama_ e) (d p:Int) (h1:0≤d) (h2:d≤5) (h3:0≤p) (h4:p≤12) (hl:kids.length<4611686018427387904) :
  ACall En 296 [.sl false (eR kids),.fn (.func 297) [] [.pt 0 1 0 0,.pt 1 1 0 0]] [⟨3,1,[[.i .i64 d]]⟩,⟨201,1,[[.pt 2 1 0 0]]⟩,⟨3,1,[[.i .i64 p]]⟩]
   [.b (!(gd_ kids (d+1) p).1)] [⟨3,1,[[.i .i64 d]]⟩,⟨201,1,[[.pt 2 1 0 0]]⟩,⟨3,1,[[.i .i64 (gd_ kids (d+1) p).2]]⟩]:=by
 refine aa_ [0,1,2] Tryz.func296 Tryz.ntmps296 fun C=>?_
 refine .seq (.rg [] ?_)
 refine .seq (.rgo [at_ [0,1,2] [] (aq8_ kids ih d p h1 h2 h3 h4 hl)] ?_ ?_ (h:=by simp only[go_sem,seval,aw_,a5_];rfl))
 ·simp
 refine .ret ⟨.inr rfl,Out.mP Tryz.results296 ?_ ?_⟩
 ·rw[akd_ _ _ _ _ (by decide)]
 trivial
theorem qw_ (e:E) (d p:Int):wlk e d p=if 5<d∨12<p+1 then(false,p+1)else if shape e.kind e.n e.s e.kids.length then gd_ e.kids (d+1) (p+1)else(false,p+1):=by cases e;simp only[wlk,E.kind,E.n,E.s,E.kids];rfl
theorem avz_ (s:Str):decide (ak_ s > 0)=fn_ s:=z4_ s
theorem atl_ (n:Nat):((n:Int)==0)=(n==0):=o8_ n 0
theorem a29_ (n:Nat):((n:Int)==1)=(n==1):=o8_ n 1
theorem a12_ (n:Nat):((n:Int)==2)=(n==2):=o8_ n 2
theorem a05_ (e:E) (hs:sm e=true):ama_ e:=by
 induction e using E.ind' with
 |h e ih=>
 intro d p hd hd6 hp hp12
 obtain⟨a1,a2,a3⟩:=fg_ hs
 refine aa_ [0] Tryz.func260 Tryz.ntmps260 fun C=>?_
 refine .seq (.rgo [] ?_ ?_)
 ·simp
 refine .seq (.rgo [] ?_ ?_ (h:=by simp only[go_sem,seval,ac_ (show -9223372036854775808≤p+1 by omega) (by omega)];rfl))
 ·simp
 refine .seq (.seq (.rgo [] ?_ ?_))
 ·simp
 refine .cB (fun h20=>?_) fun h20=>?_
 ·refine .seq (.rgo [] ?_ ?_)
  ·simp
  refine .ret ⟨.inr rfl,Out.mP Tryz.results260 ?_ ?_⟩
  ·have g:5<d∨12<p+1:=(by simp at h20;omega);rw[qw_,if_pos g]
  have g:5<d∨12<p+1:=(by simp at h20;omega);rw[qw_,if_pos g]
 refine .skip (.seq (.rgo [] ?_ ?_))
 ·simp
 refine .seqJ (fun q:Bool=>⟨[.no,.no,.no,.pt 13 4 0 0,.pt 14 1 0 0,.pt 15 1 0 0,.b false,.b q,.no,.no,.no,.no,.no,.no,.no,.no,.no,.no,.no,.no,.no,.no,.no,.no,.no,.no,.no,.no,.no,.no,.no,.no,.no,.no,.no,.no,.no,.no,.no,.no,.no,.no,.no,.no,.no,.no,.no,.no,.no,.no,.no,.no,.no,.no,.no,.no,.no,.no,.no,.no,.no,.no,.no,.no,.no,.no,.no,.no,.no,.no,.no,.no,.no,.no,.no,.no,.no,.no,.no,.no,.no,.no,.no,.no,.no,.no,.no,.no,.no,.no,.no,.no,.no,.no,.no,.no],ae_ [(0,⟨3,1,[[.i .i64 (p+1)]]⟩),(13,⟨56,4,[eC e]⟩),(14,⟨3,1,[[.i .i64 d]]⟩),(15,⟨201,1,[[.pt 0 1 0 0]]⟩)],us [13,14,15]⟩) (fun q:Bool=>q=shape e.kind e.n e.s e.kids.length) ?_ (fun q hJ=>?_)
 ·refine .seq (.rgo [] ?_ ?_)
  ·simp
  refine .block (.seq (.rgo [] ?_ ?_))
  ·simp
  refine .cB (fun h23=>?_) fun h23=>?_
  ·refine .rgo [ab_ (ta_ e.n 0 1000000)] ?_ ?_
   ·simp
   refine Exists.intro (decide (0≤e.n)&&decide (e.n≤1000000)&&e.s==[]&&(e.kids.length:Int)==0) ⟨?_,?_⟩
   ·(rw[atl_]);simp_all[shape]
   exact Can.wl
  refine .seq (.rgo [] ?_ ?_)
  ·simp
  refine .cB (fun h39=>?_) fun h39=>?_
  ·refine .rgo [ab_ (o7_ e.s a1)] ?_ ?_
   ·simp
   refine Exists.intro (e.n==0&&gi_ e.s&&(e.kids.length:Int)==0) ⟨?_,?_⟩
   ·(rw[atl_]);simp_all[shape]
   exact Can.wl
  refine .seq (.rgo [] ?_ ?_)
  ·simp
  refine .cB (fun h55=>?_) fun h55=>?_
  ·refine .rgo [ab_ (mc_ e.s)] ?_ ?_ (h:=by simp only[go_sem,seval,avz_];rfl)
   ·simp
   refine Exists.intro (e.n==0&&fn_ e.s&&(e.kids.length:Int)==2) ⟨?_,?_⟩
   ·(rw[a12_]);simp_all[shape]
   exact Can.wl
  refine .seq (.rgo [] ?_ ?_)
  ·simp
  refine .cB (fun h72=>?_) fun h72=>?_
  ·refine .rgo [ab_ (agw_ e.s)] ?_ ?_
   ·simp
   refine Exists.intro (e.n==0&&ey_ e.s&&(e.kids.length:Int)==1) ⟨?_,?_⟩
   ·(rw[a29_]);simp_all[shape]
   exact Can.wl
  refine .skip ?_
  refine⟨false,?_,?_⟩
  ·(skip);simp_all[shape]
  exact Can.wl
 cases q
 ·refine .seq (.rgo [at_ [14,15,0] [] (sm_ e.kids (fun x hx=>ih x hx (cj_ a3 x hx)) d (p+1) hd (by simp at h20;omega) (by omega) (by simp at h20;omega) a2)] ?_ ?_ (h:=by simp only[go_sem,seval,aw_,a5_];rfl))
  ·simp
  refine .ret ⟨.inr rfl,Out.mP Tryz.results260 ?_ ?_⟩
  ·have g:¬(5<d∨12<p+1):=(by simp at h20;omega);rw[qw_,if_neg g,←hJ];rfl
  have g:¬(5<d∨12<p+1):=(by simp at h20;omega);rw[qw_,if_neg g,←hJ];rfl
 refine .seq (.rgo [at_ [14,15,0] [] (sm_ e.kids (fun x hx=>ih x hx (cj_ a3 x hx)) d (p+1) hd (by simp at h20;omega) (by omega) (by simp at h20;omega) a2)] ?_ ?_ (h:=by simp only[go_sem,seval,aw_,a5_];rfl))
 ·simp
 refine .ret ⟨.inr rfl,Out.mP Tryz.results260 ?_ ?_⟩
 ·have g:¬(5<d∨12<p+1):=(by simp at h20;omega);rw[qw_,if_neg g,←hJ];simp
 have g:¬(5<d∨12<p+1):=(by simp at h20;omega);rw[qw_,if_neg g,←hJ];rfl
theorem hk_ (e:E) (hs:sm e=true):ACall En 200 [.ag (eC e)] [] [.b (eok e)] []:=by
 refine aa_ [] Tryz.func200 Tryz.ntmps200 fun C=>?_
 refine .seq (.rg [] ?_)
 refine .seq (.rg [] ?_)
 refine .seq (.rg [at_ [13] [] (a05_ e hs 1 0 (by decide) (by decide) (by decide) (by decide))] ?_ (h:=by simp only[go_sem,seval,aw_,a5_];rfl))
 refine .ret ⟨.inr rfl,Out.pP Tryz.results200 ?_⟩;rw[ax6_]
end
section
theorem ahs_ (a b:List E):eR (a++b)=eR a++eR b:=by simp[rk_]
end
end Go.Proofs.YthjccajoadjicaaGreatDoor
