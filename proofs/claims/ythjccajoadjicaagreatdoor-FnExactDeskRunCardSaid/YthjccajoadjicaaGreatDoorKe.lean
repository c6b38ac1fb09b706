/- The plain functions that the Go functions compute. Conditions: none. -/
import Derived.Test.YthjccajoadjicaaGreatDoorKa
import Derived.Lib.ItoaMem
import Derived.Lib.AtoiAll
import Derived.Test.YthjccajoadjicaaGreatDoorKc
import Derived.Test.YthjccajoadjicaaGreatDoorProg
import Derived.Lib.LaidTab
set_option linter.unusedVariables false
set_option linter.unusedSimpArgs false
namespace Go.Proofs.YthjccajoadjicaaGreatDoor
section
def ap_ (s:Str):Int:=if s==[60]then 1 else if s==[43]||s==[45]then 2 else if s==[42]then 3 else 0
def fe_ (s:Str):Bool:=s==[105,110,116]||s==[98,111,111,108]
def fm_ (s:Str):Bool:=s==[43]||s==[45]||s==[42]||s==[60]
def jn_ (s:Str):Bool:=s==[108,101,116]||s==[115,97,121]||s==[119,104,101,110]||s==[97,115]||s==[112,114,105,110,116]||s==[105,102]||fe_ s
def ch_ (c:UInt8):Bool:=decide (97≤(c.toNat:Int))&&decide ((c.toNat:Int)≤122)
def b1_ (c:UInt8):Bool:=decide (48≤(c.toNat:Int))&&decide ((c.toNat:Int)≤57)
def ev_ (s:Str):Bool:=s.all ch_&&decide (1≤s.length)&&decide (s.length≤8)
def gw_ (s:Str):Bool:=ev_ s&&!jn_ s
def shape (k n:Int) (s:Str) (m:Nat):Bool:=
 if k==1 then decide (0≤n)&&decide (n≤1000000)&&s.isEmpty&&m==0
 else if k==2 then n==0&&gw_ s&&m==0
 else if k==3 then n==0&&fm_ s&&m==2
 else if k==4 then n==0&&fe_ s&&m==1
 else false
mutual
def form:E→Int→Bool
 |.mk k n s kids,d=>decide (1≤d)&&shape k n s kids.length&&c7_ kids (d - 1)
def c7_:List E→Int→Bool
 |[],_=>true
 |e::r,d=>form e d&&c7_ r d
end
mutual
def many:E→Int→Int
 |.mk _ _ _ kids,d=>1+if 0<d then co_ kids (d - 1)else 0
def co_:List E→Int→Int
 |[],_=>0
 |e::r,d=>many e d+co_ r d
end
mutual
def wlk:E→Int→Int→Bool × Int
 |.mk k n s kids,d,p=>if 5<d∨12<p+1 then(false,p+1)else if shape k n s kids.length then gd_ kids (d+1) (p+1)else(false,p+1)
def gd_:List E→Int→Int→Bool × Int
 |[],_,p=>(true,p)
 |e::r,d,p=>if (wlk e d p).1 then gd_ r d (wlk e d p).2 else(false,(wlk e d p).2)
end
def same:E→E→Bool
 |.mk k n s kids,y=>match y with
  |.mk k' n' s' kids'=>(k==k')&&(n==n')&&(s==s')&&sameL kids kids'
where sameL:List E→List E→Bool
 |[],[]=>true
 |x::r,y::t=>same x y&&sameL r t
 |_,_=>false
theorem s8_ (x y:E):same x y=((x.kind==y.kind)&&(x.n==y.n)&&(x.s==y.s)&&same.sameL x.kids y.kids):=by
 cases x;cases y;simp only[same,E.kind,E.n,E.s,E.kids]
mutual
def bare:E→E
 |.mk k n s kids=>if k=4 then abw_ kids (.mk k n s [])else .mk k n s (eb_ kids)
def abw_:List E→E→E
 |[],d=>d
 |e::_,_=>bare e
def eb_:List E→List E
 |[]=>[]
 |e::r=>bare e::eb_ r
end
abbrev Wd:=List (Str × Int)
mutual
def cnt:E→Int
 |.mk k _ _ kids=>if k=4 then wv_ kids else 1+wv_ kids
def wv_:List E→Int
 |[]=>0
 |e::r=>cnt e+wv_ r
end
def brk (b:Bool) (l:Wd):Wd:=if b then([40], -1)::(l++[([41], -1)])else l
mutual
def src:E→Int→Int→Wd
 |.mk k n s kids,must,nx=>
  if k=1 then [(Go.Lib.decDigits n.toNat,nx)]
  else if k=2 then [(s,nx)]
  else if k=3 then brk (decide (ap_ s<must)) (zu_ kids (max 2 (ap_ s)) (nx+1)++(s,nx)::srcB kids (ap_ s+1) (nx+1))
  else if k=4 then zu_ kids 4 nx++[([97,115], -1),(s, -1)]
  else []
def zu_:List E→Int→Int→Wd
 |[],_,_=>[]
 |e::_,must,nx=>src e must nx
def srcB:List E→Int→Int→Wd
 |[],_,_=>[]
 |e::r,must,nx=>zu_ r must (nx+cnt e)
end
def wds (e:E) (must:Int):List Str:=(src e must 0).map (·.1)
def ax_ (l:List Str):Str:=[(32:UInt8)].intercalate l
def bj_ (l:List Str) (s:Str):Int:=if s∈l then(l.idxOf s:Int)else -1
end
section
open Go.Lib
def gq_ (a:Nat) (c:UInt8):Nat:=a * 10+(c.toNat - 48)
def av_ (l:Str):Nat:=l.foldl gq_ 0
def bd_ (l:Str):Bool:=decide (av_ l≤1000000)&&(decDigits (av_ l)==l)
def gf_ (c:UInt8):Prop:=48≤c.toNat∧c.toNat≤57
theorem v3_ {d:Nat} (h:d<10):(UInt8.ofNat (48+d)).toNat=48+d:=by
 rw[UInt8.toNat_ofNat'];omega
theorem cq_ {n:Nat} (h:¬n<10):decDigits n=decDigits (n / 10)++[UInt8.ofNat (48+n % 10)]:=by
 rw[decDigits,dif_neg h]
theorem da_:∀n:Nat,∀c∈decDigits n,gf_ c:=by
 intro n
 induction n using Nat.strongRecOn with
 |ind n ih=>
  intro c hc
  by_cases h:n<10
  ·rw[decDigits_one h]at hc
   simp only[List.mem_singleton]at hc
   subst hc;unfold gf_;rw[v3_ h];omega
  ·rw[cq_ h]at hc
   rcases List.mem_append.1 hc with hc|hc
   ·exact ih _ (by omega) c hc
   ·simp only[List.mem_singleton]at hc
    subst hc;unfold gf_;rw[v3_ (by omega)];omega
theorem jw_ (l:Str) (c:UInt8):av_ (l++[c])=av_ l * 10+(c.toNat - 48):=by simp[av_,gq_]
theorem d1_ (n:Nat):av_ (decDigits n)=n:=by
 induction n using Nat.strongRecOn with
 |ind n ih=>
  by_cases h:n<10
  ·rw[decDigits_one h]
   show 0 * 10+((UInt8.ofNat (48+n)).toNat - 48)=n
   rw[v3_ h];omega
  ·rw[cq_ h,jw_,ih _ (by omega),v3_ (by omega)];omega
theorem fc_ (n:Nat):decDigits n≠[]:=by
 by_cases h:n<10
 ·rw[decDigits_one h];simp
 ·rw[cq_ h];simp
theorem ae6_:∀(l:Str) (a:Nat),a≤l.foldl gq_ a
 |[],a=>Nat.le_refl _
 |c::r,a=>Nat.le_trans (by unfold gq_;omega) (ae6_ r (gq_ a c))
theorem pk_:∀(l:Str) (a:Nat),(∀c∈l,gf_ c)→l.foldl gq_ a≤1000000→parseUint10 a l = .ok (l.foldl gq_ a)
 |[],a,_,_=>rfl
 |c::r,a,h,hl=>by
  have hc:=h c (by simp)
  have h1:=ae6_ r (gq_ a c)
  have h2:gq_ a c≤1000000:=Nat.le_trans h1 hl
  unfold gf_ at hc
  rw[parseUint10,if_pos hc,if_neg (by unfold gq_ at h2;omega),if_neg (by unfold gq_ at h2;omega)]
  exact pk_ r _ (fun x hx=>h x (by simp[hx])) hl
theorem i1_ {n:Nat} (h:n≤1000000):atoiAll (decDigits n) = .ok (n:Int):=by
 have hd:=da_ n
 have hv:=d1_ n
 cases hl:decDigits n with
 |nil=>exact absurd hl (fc_ n)
 |cons c r=>
  rw[hl]at hd hv
  have hc:=hd c (by simp)
  unfold gf_ at hc
  have hp:parseMag (c::r) = .ok n:=by
   unfold parseMag
   rw[if_neg (by simp),pk_ _ _ hd (by unfold av_ at hv;omega)]
   exact congrArg _ hv
  simp only[atoiAll]
  rw[if_neg (by omega),hp]
  simp only[]
  rw[if_neg (by omega),if_neg (by omega),if_neg (by omega)]
theorem dn_ {l:Str}:bd_ l=true↔∃n:Nat,n≤1000000∧l=decDigits n:=by
 unfold bd_
 simp only[T5_,T3_,beq_iff_eq]
 constructor
 ·rintro⟨h,k⟩;exact⟨_,h,k.symm⟩
 ·rintro⟨n,h,rfl⟩;rw[d1_];exact⟨h,rfl⟩
theorem avd_ {l:Str} {v:Int} (h:atoiAll l = .ok v):(decide (0≤v)&&decide (v≤1000000)&&(itoa v==l))=bd_ l:=by
 rw[Bool.eq_iff_iff,dn_]
 simp only[T5_,T3_,beq_iff_eq]
 constructor
 ·rintro⟨⟨h0,h1⟩,h2⟩
  refine⟨v.toNat,by omega,?_⟩
  rw[←h2,←itoa_nonneg,Int.toNat_of_nonneg h0]
 ·rintro⟨n,hn,rfl⟩
  rw[i1_ hn]at h
  injection h with h
  subst h
  exact⟨⟨by omega,by omega⟩,itoa_nonneg n⟩
theorem ap2_ {l:Str} {v:Int} (h:atoiAll l = .ok v) (k:bd_ l=true):v=av_ l:=by
 obtain⟨n,hn,rfl⟩:=dn_.1 k
 rw[i1_ hn]at h
 injection h with h
 rw[d1_,h]
theorem ar1_ {l:Str} (h:∀v,atoiAll l≠.ok v):bd_ l=false:=by
 rw[Bool.eq_false_iff]
 intro k
 obtain⟨n,hn,rfl⟩:=dn_.1 k
 exact h _ (i1_ hn)
def f4_ (l:Str):Int × Bool:=
 let neg:=l.head?==some 45
 let r:=if neg then l.tail else l
 if r.length=0∨17<r.length∨(r.head? = some 48∧(1<r.length∨neg=true))then(0,false)
 else if r.all b1_ then(if neg then -(av_ r:Int)else av_ r,true)else(0,false)
theorem mz_ (c:UInt8):b1_ c=true↔gf_ c:=by
 unfold b1_ gf_;simp only[T5_,T3_];omega
theorem lead {l:Str}:l≠[]→(∀c∈l,gf_ c)→l.head?≠some 48→1≤av_ l∧decDigits (av_ l)=l:=by
 suffices H:∀(k:Nat) (l:Str),l.length=k→l≠[]→(∀c∈l,gf_ c)→l.head?≠some 48→1≤av_ l∧decDigits (av_ l)=l from H _ l rfl
 intro k
 induction k with
 |zero=>intro l h hne;exact absurd (List.eq_nil_of_length_eq_zero h) hne
 |succ k ih=>
  intro l hk hne hd hh
  obtain⟨i,c,rfl⟩:∃i c,l=i++[c]:=⟨l.dropLast,l.getLast hne,(List.dropLast_concat_getLast hne).symm⟩
  have hc:=hd c (by simp)
  have hcc:=hc
  unfold gf_ at hc
  have hcn:UInt8.ofNat (48+(c.toNat - 48))=c:=by
   rw[show 48+(c.toNat - 48)=c.toNat from by omega];exact UInt8.ofNat_toNat
  rw[jw_]
  cases i with
  |nil=>
   have h0:c≠48:=fun e=>hh (by simp[e])
   have h1:c.toNat≠48:=fun e=>h0 (by rw[←UInt8.ofNat_toNat (x:=c),e];rfl)
   simp only[av_,List.foldl_nil,Nat.zero_mul,Nat.zero_add,List.nil_append]
   exact⟨by omega,by rw[decDigits_one (by omega),hcn]⟩
  |cons x r=>
   obtain⟨h1,h2⟩:=ih (x::r) (by simpa using hk) (by simp) (fun y hy=>hd y (List.mem_append_left _ hy)) (by simpa using hh)
   refine⟨by omega,?_⟩
   rw[cq_ (by omega),show(av_ (x::r) * 10+(c.toNat - 48)) / 10=av_ (x::r)from by omega,h2,
    show(av_ (x::r) * 10+(c.toNat - 48)) % 10=c.toNat - 48 from by omega,hcn]
end
section
open Go.RowKit
def ownW:List Str:=[[108,101,116],[115,97,121],[119,104,101,110],[97,115],[112,114,105,110,116],[105,102],[105,110,116],[98,111,111,108]]
def an_ (l:List Str):List (List V):=l.map fun s=>[.s s]
theorem al_ (l:List Str):(an_ l).length=l.length:=by simp[an_]
theorem aw_ {l:List Str} {k:Nat} (h:k<l.length):(an_ l).getD k []=[.s (l.getD k [])]:=by
 simp[an_,T8_,T6_ h]
theorem aq_:∀l:List Str,bh_ (an_ l)=true
 |[]=>rfl
 |s::l=>by simp only[an_,List.map_cons,bh_,bv_,V.pure,Bool.true_and];exact aq_ l
structure Gl (B:Nat) (w:World):Prop where
 tab:Lib.TabIs Tryz.prog w "internal/strconv.uint64pow10" .u64 Lib.pow10Tab
 syn:∃tp p,w.var? Tryz.prog "strconv.ErrSyntax" = some #[.iface tp p]
 rng:∃tp p,w.var? Tryz.prog "strconv.ErrRange" = some #[.iface tp p]
 maxl:∃m:Int,w.cell? ⟨0,0,none⟩=some (.int .i64 m)
 many:6<B∧4<B∧5<B∧0<B
theorem rk_ {P:Program} {B g:Nat} {W W':World} {n:String} {cs:Array Value} (h:∀g,g<B→W'.heap[g]? = W.heap[g]?) (hg:P.globalNamed n=some g) (hgB:g<B) (hv:W.var? P n=some cs):W'.var? P n=some cs:=by
 unfold World.var? at hv ⊢
 simp only[hg,Option.bind_some]at hv ⊢
 rw[h g hgB]
 exact hv
theorem gTab:Tryz.prog.globalNamed "internal/strconv.uint64pow10" = some 6:=by kernel_rfl
theorem gSyn:Tryz.prog.globalNamed "strconv.ErrSyntax" = some 4:=by kernel_rfl
theorem gRng:Tryz.prog.globalNamed "strconv.ErrRange" = some 5:=by kernel_rfl
theorem Gl.same {B:Nat} {w w':World} (h:Gl B w) (hb:∀g,g<B→w'.heap[g]? = w.heap[g]?):Gl B w':=by
 obtain⟨m1,m2,m3,m4⟩:=h.many
 obtain⟨m,hm⟩:=h.maxl
 obtain⟨t1,p1,s1⟩:=h.syn
 obtain⟨t2,p2,s2⟩:=h.rng
 exact⟨rk_ hb gTab m1 h.tab,⟨t1,p1,rk_ hb gSyn m2 s1⟩,⟨t2,p2,rk_ hb gRng m3 s2⟩,⟨m,by unfold World.cell? at hm ⊢;rw[hb _ m4];exact hm⟩,h.many⟩
noncomputable def En:Env:=⟨Tryz.prog,fun g=>if g=1 then some [.sl false (an_ ownW)]else none,Gl,fun _ _ _ h hb=>h.same hb⟩
theorem axu_:En.G 1=some [.sl false (an_ ownW)]:=rfl
theorem enM:En.P.follows .mixedOrders=true:=by kernel_rfl
end
section
theorem ty2:a2_ En.P 2=some ⟨TK.int IntKind.i64,1,V.i IntKind.i64 (0)⟩:=by kernel_rfl
theorem zo2:az_ En.P 2=V.i IntKind.i64 (0):=by kernel_rfl
theorem ty3:a2_ En.P 3=some ⟨TK.int IntKind.i64,1,V.i IntKind.i64 (0)⟩:=by kernel_rfl
theorem zo3:az_ En.P 3=V.i IntKind.i64 (0):=by kernel_rfl
theorem ty4:a2_ En.P 4=some ⟨TK.bool,1,V.b false⟩:=by kernel_rfl
theorem zo4:az_ En.P 4=V.b false:=by kernel_rfl
theorem ty5:a2_ En.P 5=some ⟨TK.int IntKind.u8,1,V.i IntKind.u8 (0)⟩:=by kernel_rfl
theorem zo5:az_ En.P 5=V.i IntKind.u8 (0):=by kernel_rfl
theorem ty6:a2_ En.P 6=some ⟨TK.int IntKind.u8,1,V.i IntKind.u8 (0)⟩:=by kernel_rfl
theorem zo6:az_ En.P 6=V.i IntKind.u8 (0):=by kernel_rfl
theorem ty7:a2_ En.P 7=some ⟨TK.st [(0,1,false),(1,1,false),(2,1,false),(3,1,false)],4,V.ag [V.i IntKind.i64 (0),V.i IntKind.i64 (0),V.b false,V.i IntKind.u8 (0)]⟩:=by kernel_rfl
theorem zo7:az_ En.P 7=V.ag [V.i IntKind.i64 (0),V.i IntKind.i64 (0),V.b false,V.i IntKind.u8 (0)]:=by kernel_rfl
theorem ty8:a2_ En.P 8=some ⟨TK.st [(0,1,false),(1,1,false),(2,1,false),(3,1,false)],4,V.ag [V.i IntKind.i64 (0),V.i IntKind.i64 (0),V.b false,V.i IntKind.u8 (0)]⟩:=by kernel_rfl
theorem zo8:az_ En.P 8=V.ag [V.i IntKind.i64 (0),V.i IntKind.i64 (0),V.b false,V.i IntKind.u8 (0)]:=by kernel_rfl
theorem ty9:a2_ En.P 9=some ⟨TK.str,1,V.s []⟩:=by kernel_rfl
theorem zo9:az_ En.P 9=V.s []:=by kernel_rfl
theorem ty10:a2_ En.P 10=some ⟨TK.str,1,V.s []⟩:=by kernel_rfl
theorem zo10:az_ En.P 10=V.s []:=by kernel_rfl
theorem ty11:a2_ En.P 11=some ⟨TK.str,1,V.s []⟩:=by kernel_rfl
theorem zo11:az_ En.P 11=V.s []:=by kernel_rfl
theorem ty12:a2_ En.P 12=some ⟨TK.int IntKind.u64,1,V.i IntKind.u64 (0)⟩:=by kernel_rfl
theorem zo12:az_ En.P 12=V.i IntKind.u64 (0):=by kernel_rfl
theorem ty13:a2_ En.P 13=some ⟨TK.st [(0,1,false),(1,1,false)],2,V.ag [V.s [],V.i IntKind.u64 (0)]⟩:=by kernel_rfl
theorem zo13:az_ En.P 13=V.ag [V.s [],V.i IntKind.u64 (0)]:=by kernel_rfl
theorem ty14:a2_ En.P 14=some ⟨TK.st [(0,1,false),(1,1,false)],2,V.ag [V.s [],V.i IntKind.u64 (0)]⟩:=by kernel_rfl
theorem zo14:az_ En.P 14=V.ag [V.s [],V.i IntKind.u64 (0)]:=by kernel_rfl
theorem ty15:a2_ En.P 15=some ⟨TK.other,1,V.np⟩:=by kernel_rfl
theorem zo15:az_ En.P 15=V.np:=by kernel_rfl
theorem ty16:a2_ En.P 16=some ⟨TK.other,1,V.np⟩:=by kernel_rfl
theorem zo16:az_ En.P 16=V.np:=by kernel_rfl
theorem ty17:a2_ En.P 17=some ⟨TK.other,1,V.np⟩:=by kernel_rfl
theorem zo17:az_ En.P 17=V.np:=by kernel_rfl
theorem ty18:a2_ En.P 18=some ⟨TK.st [(0,1,false)],1,V.ag [V.np]⟩:=by kernel_rfl
theorem zo18:az_ En.P 18=V.ag [V.np]:=by kernel_rfl
theorem ty19:a2_ En.P 19=some ⟨TK.st [(0,1,false)],1,V.ag [V.np]⟩:=by kernel_rfl
theorem zo19:az_ En.P 19=V.ag [V.np]:=by kernel_rfl
theorem ty21:a2_ En.P 21=some ⟨TK.int IntKind.i32,1,V.i IntKind.i32 (0)⟩:=by kernel_rfl
theorem zo21:az_ En.P 21=V.i IntKind.i32 (0):=by kernel_rfl
theorem ty24:a2_ En.P 24=some ⟨TK.sl 5 1 1 [V.i IntKind.u8 (0)],1,V.sl true []⟩:=by kernel_rfl
theorem zo24:az_ En.P 24=V.sl true []:=by kernel_rfl
theorem ty27:a2_ En.P 27=some ⟨TK.sl 67 4 64 [V.s [],V.b false,V.s [],V.sl true []],1,V.sl true []⟩:=by kernel_rfl
theorem zo27:az_ En.P 27=V.sl true []:=by kernel_rfl
theorem ty29:a2_ En.P 29=some ⟨TK.sl 9 1 16 [V.s []],1,V.sl true []⟩:=by kernel_rfl
theorem zo29:az_ En.P 29=V.sl true []:=by kernel_rfl
theorem ty34:a2_ En.P 34=some ⟨TK.other,1,V.np⟩:=by kernel_rfl
theorem zo34:az_ En.P 34=V.np:=by kernel_rfl
theorem ty35:a2_ En.P 35=some ⟨TK.st [(0,1,false)],1,V.ag [V.sl true []]⟩:=by kernel_rfl
theorem zo35:az_ En.P 35=V.ag [V.sl true []]:=by kernel_rfl
theorem ty36:a2_ En.P 36=some ⟨TK.st [(0,1,false)],1,V.ag [V.sl true []]⟩:=by kernel_rfl
theorem zo36:az_ En.P 36=V.ag [V.sl true []]:=by kernel_rfl
theorem ty37:a2_ En.P 37=some ⟨TK.other,1,V.np⟩:=by kernel_rfl
theorem zo37:az_ En.P 37=V.np:=by kernel_rfl
theorem ty38:a2_ En.P 38=some ⟨TK.st [(0,1,false),(1,1,false)],2,V.ag [V.np,V.sl true []]⟩:=by kernel_rfl
theorem zo38:az_ En.P 38=V.ag [V.np,V.sl true []]:=by kernel_rfl
theorem ty39:a2_ En.P 39=some ⟨TK.st [(0,1,false),(1,1,false)],2,V.ag [V.np,V.sl true []]⟩:=by kernel_rfl
theorem zo39:az_ En.P 39=V.ag [V.np,V.sl true []]:=by kernel_rfl
theorem ty49:a2_ En.P 49=some ⟨TK.other,1,V.np⟩:=by kernel_rfl
theorem zo49:az_ En.P 49=V.np:=by kernel_rfl
theorem ty51:a2_ En.P 51=some ⟨TK.sl 58 11 152 [V.i IntKind.i64 (0),V.s [],V.s [],V.i IntKind.i64 (0),V.i IntKind.i64 (0),V.s [],V.sl true [],V.i IntKind.i64 (0),V.i IntKind.i64 (0),V.s [],V.sl true []],1,V.sl true []⟩:=by kernel_rfl
theorem zo51:az_ En.P 51=V.sl true []:=by kernel_rfl
theorem ty54:a2_ En.P 54=some ⟨TK.sl 56 4 56 [V.i IntKind.i64 (0),V.i IntKind.i64 (0),V.s [],V.sl true []],1,V.sl true []⟩:=by kernel_rfl
theorem zo54:az_ En.P 54=V.sl true []:=by kernel_rfl
theorem ty55:a2_ En.P 55=some ⟨TK.st [(0,1,false),(1,1,false),(2,1,false),(3,1,false)],4,V.ag [V.i IntKind.i64 (0),V.i IntKind.i64 (0),V.s [],V.sl true []]⟩:=by kernel_rfl
theorem zo55:az_ En.P 55=V.ag [V.i IntKind.i64 (0),V.i IntKind.i64 (0),V.s [],V.sl true []]:=by kernel_rfl
theorem ty56:a2_ En.P 56=some ⟨TK.st [(0,1,false),(1,1,false),(2,1,false),(3,1,false)],4,V.ag [V.i IntKind.i64 (0),V.i IntKind.i64 (0),V.s [],V.sl true []]⟩:=by kernel_rfl
theorem zo56:az_ En.P 56=V.ag [V.i IntKind.i64 (0),V.i IntKind.i64 (0),V.s [],V.sl true []]:=by kernel_rfl
theorem ty57:a2_ En.P 57=some ⟨TK.st [(0,1,false),(1,1,false),(2,1,false),(3,4,true),(7,4,true)],11,V.ag [V.i IntKind.i64 (0),V.s [],V.s [],V.i IntKind.i64 (0),V.i IntKind.i64 (0),V.s [],V.sl true [],V.i IntKind.i64 (0),V.i IntKind.i64 (0),V.s [],V.sl true []]⟩:=by kernel_rfl
theorem zo57:az_ En.P 57=V.ag [V.i IntKind.i64 (0),V.s [],V.s [],V.i IntKind.i64 (0),V.i IntKind.i64 (0),V.s [],V.sl true [],V.i IntKind.i64 (0),V.i IntKind.i64 (0),V.s [],V.sl true []]:=by kernel_rfl
theorem ty58:a2_ En.P 58=some ⟨TK.st [(0,1,false),(1,1,false),(2,1,false),(3,4,true),(7,4,true)],11,V.ag [V.i IntKind.i64 (0),V.s [],V.s [],V.i IntKind.i64 (0),V.i IntKind.i64 (0),V.s [],V.sl true [],V.i IntKind.i64 (0),V.i IntKind.i64 (0),V.s [],V.sl true []]⟩:=by kernel_rfl
theorem zo58:az_ En.P 58=V.ag [V.i IntKind.i64 (0),V.s [],V.s [],V.i IntKind.i64 (0),V.i IntKind.i64 (0),V.s [],V.sl true [],V.i IntKind.i64 (0),V.i IntKind.i64 (0),V.s [],V.sl true []]:=by kernel_rfl
theorem ty65:a2_ En.P 65=some ⟨TK.sl 3 1 8 [V.i IntKind.i64 (0)],1,V.sl true []⟩:=by kernel_rfl
theorem zo65:az_ En.P 65=V.sl true []:=by kernel_rfl
theorem ty66:a2_ En.P 66=some ⟨TK.st [(0,1,false),(1,1,false),(2,1,false),(3,1,false)],4,V.ag [V.s [],V.b false,V.s [],V.sl true []]⟩:=by kernel_rfl
theorem zo66:az_ En.P 66=V.ag [V.s [],V.b false,V.s [],V.sl true []]:=by kernel_rfl
theorem ty67:a2_ En.P 67=some ⟨TK.st [(0,1,false),(1,1,false),(2,1,false),(3,1,false)],4,V.ag [V.s [],V.b false,V.s [],V.sl true []]⟩:=by kernel_rfl
theorem zo67:az_ En.P 67=V.ag [V.s [],V.b false,V.s [],V.sl true []]:=by kernel_rfl
theorem ty79:a2_ En.P 79=some ⟨TK.st [(0,1,false),(1,1,false)],2,V.ag [V.i IntKind.i64 (0),V.i IntKind.i64 (0)]⟩:=by kernel_rfl
theorem zo79:az_ En.P 79=V.ag [V.i IntKind.i64 (0),V.i IntKind.i64 (0)]:=by kernel_rfl
theorem ty80:a2_ En.P 80=some ⟨TK.st [(0,1,false),(1,1,false)],2,V.ag [V.i IntKind.i64 (0),V.i IntKind.i64 (0)]⟩:=by kernel_rfl
theorem zo80:az_ En.P 80=V.ag [V.i IntKind.i64 (0),V.i IntKind.i64 (0)]:=by kernel_rfl
theorem ty81:a2_ En.P 81=some ⟨TK.other,1,V.np⟩:=by kernel_rfl
theorem zo81:az_ En.P 81=V.np:=by kernel_rfl
theorem ty82:a2_ En.P 82=some ⟨TK.st [(0,1,false),(1,1,false)],2,V.ag [V.sl true [],V.i IntKind.i64 (0)]⟩:=by kernel_rfl
theorem zo82:az_ En.P 82=V.ag [V.sl true [],V.i IntKind.i64 (0)]:=by kernel_rfl
theorem ty83:a2_ En.P 83=some ⟨TK.st [(0,1,false),(1,1,false)],2,V.ag [V.sl true [],V.i IntKind.i64 (0)]⟩:=by kernel_rfl
theorem zo83:az_ En.P 83=V.ag [V.sl true [],V.i IntKind.i64 (0)]:=by kernel_rfl
theorem ty97:a2_ En.P 97=some ⟨TK.sl 138 4 32 [V.i IntKind.i64 (0),V.i IntKind.i64 (0),V.i IntKind.i64 (0),V.i IntKind.i64 (0)],1,V.sl true []⟩:=by kernel_rfl
theorem zo97:az_ En.P 97=V.sl true []:=by kernel_rfl
theorem azi_:a2_ En.P 108=some ⟨TK.other,1,V.np⟩:=by kernel_rfl
theorem a1q_:az_ En.P 108=V.np:=by kernel_rfl
theorem a06_:a2_ En.P 120=some ⟨TK.sl 80 2 16 [V.i IntKind.i64 (0),V.i IntKind.i64 (0)],1,V.sl true []⟩:=by kernel_rfl
theorem azy_:az_ En.P 120=V.sl true []:=by kernel_rfl
theorem a2e_:a2_ En.P 129=some ⟨TK.sl 133 2 24 [V.s [],V.i IntKind.i64 (0)],1,V.sl true []⟩:=by kernel_rfl
theorem a00_:az_ En.P 129=V.sl true []:=by kernel_rfl
theorem a0l_:a2_ En.P 132=some ⟨TK.st [(0,1,false),(1,1,false)],2,V.ag [V.s [],V.i IntKind.i64 (0)]⟩:=by kernel_rfl
theorem ay2_:az_ En.P 132=V.ag [V.s [],V.i IntKind.i64 (0)]:=by kernel_rfl
theorem a0e_:a2_ En.P 133=some ⟨TK.st [(0,1,false),(1,1,false)],2,V.ag [V.s [],V.i IntKind.i64 (0)]⟩:=by kernel_rfl
theorem azq_:az_ En.P 133=V.ag [V.s [],V.i IntKind.i64 (0)]:=by kernel_rfl
theorem ay7_:a2_ En.P 137=some ⟨TK.st [(0,2,true),(2,2,true)],4,V.ag [V.i IntKind.i64 (0),V.i IntKind.i64 (0),V.i IntKind.i64 (0),V.i IntKind.i64 (0)]⟩:=by kernel_rfl
theorem a01_:az_ En.P 137=V.ag [V.i IntKind.i64 (0),V.i IntKind.i64 (0),V.i IntKind.i64 (0),V.i IntKind.i64 (0)]:=by kernel_rfl
theorem a18_:a2_ En.P 138=some ⟨TK.st [(0,2,true),(2,2,true)],4,V.ag [V.i IntKind.i64 (0),V.i IntKind.i64 (0),V.i IntKind.i64 (0),V.i IntKind.i64 (0)]⟩:=by kernel_rfl
theorem az5_:az_ En.P 138=V.ag [V.i IntKind.i64 (0),V.i IntKind.i64 (0),V.i IntKind.i64 (0),V.i IntKind.i64 (0)]:=by kernel_rfl
theorem a1t_:a2_ En.P 140=some ⟨TK.sl 144 3 32 [V.i IntKind.i64 (0),V.s [],V.i IntKind.i64 (0)],1,V.sl true []⟩:=by kernel_rfl
theorem az2_:az_ En.P 140=V.sl true []:=by kernel_rfl
theorem a15_:a2_ En.P 143=some ⟨TK.st [(0,1,false),(1,1,false),(2,1,false)],3,V.ag [V.i IntKind.i64 (0),V.s [],V.i IntKind.i64 (0)]⟩:=by kernel_rfl
theorem azk_:az_ En.P 143=V.ag [V.i IntKind.i64 (0),V.s [],V.i IntKind.i64 (0)]:=by kernel_rfl
theorem a1y_:a2_ En.P 144=some ⟨TK.st [(0,1,false),(1,1,false),(2,1,false)],3,V.ag [V.i IntKind.i64 (0),V.s [],V.i IntKind.i64 (0)]⟩:=by kernel_rfl
theorem a1k_:az_ En.P 144=V.ag [V.i IntKind.i64 (0),V.s [],V.i IntKind.i64 (0)]:=by kernel_rfl
theorem a11_:a2_ En.P 145=some ⟨TK.sl 147 10 136 [V.i IntKind.i64 (0),V.s [],V.i IntKind.i64 (0),V.i IntKind.i64 (0),V.s [],V.sl true [],V.i IntKind.i64 (0),V.i IntKind.i64 (0),V.s [],V.sl true []],1,V.sl true []⟩:=by kernel_rfl
theorem a0j_:az_ En.P 145=V.sl true []:=by kernel_rfl
theorem a1p_:a2_ En.P 146=some ⟨TK.st [(0,1,false),(1,1,false),(2,4,true),(6,4,true)],10,V.ag [V.i IntKind.i64 (0),V.s [],V.i IntKind.i64 (0),V.i IntKind.i64 (0),V.s [],V.sl true [],V.i IntKind.i64 (0),V.i IntKind.i64 (0),V.s [],V.sl true []]⟩:=by kernel_rfl
theorem a1d_:az_ En.P 146=V.ag [V.i IntKind.i64 (0),V.s [],V.i IntKind.i64 (0),V.i IntKind.i64 (0),V.s [],V.sl true [],V.i IntKind.i64 (0),V.i IntKind.i64 (0),V.s [],V.sl true []]:=by kernel_rfl
theorem az3_:a2_ En.P 147=some ⟨TK.st [(0,1,false),(1,1,false),(2,4,true),(6,4,true)],10,V.ag [V.i IntKind.i64 (0),V.s [],V.i IntKind.i64 (0),V.i IntKind.i64 (0),V.s [],V.sl true [],V.i IntKind.i64 (0),V.i IntKind.i64 (0),V.s [],V.sl true []]⟩:=by kernel_rfl
theorem a0h_:az_ En.P 147=V.ag [V.i IntKind.i64 (0),V.s [],V.i IntKind.i64 (0),V.i IntKind.i64 (0),V.s [],V.sl true [],V.i IntKind.i64 (0),V.i IntKind.i64 (0),V.s [],V.sl true []]:=by kernel_rfl
theorem a1v_:a2_ En.P 154=some ⟨TK.sl 158 2 24 [V.s [],V.i IntKind.i64 (0)],1,V.sl true []⟩:=by kernel_rfl
theorem a1j_:az_ En.P 154=V.sl true []:=by kernel_rfl
theorem azh_:a2_ En.P 157=some ⟨TK.st [(0,1,false),(1,1,false)],2,V.ag [V.s [],V.i IntKind.i64 (0)]⟩:=by kernel_rfl
theorem a0b_:az_ En.P 157=V.ag [V.s [],V.i IntKind.i64 (0)]:=by kernel_rfl
theorem azf_:a2_ En.P 158=some ⟨TK.st [(0,1,false),(1,1,false)],2,V.ag [V.s [],V.i IntKind.i64 (0)]⟩:=by kernel_rfl
theorem a1e_:az_ En.P 158=V.ag [V.s [],V.i IntKind.i64 (0)]:=by kernel_rfl
theorem azt_:a2_ En.P 201=some ⟨TK.other,1,V.np⟩:=by kernel_rfl
theorem a1i_:az_ En.P 201=V.np:=by kernel_rfl
theorem azu_:a2_ En.P 204=some ⟨TK.int IntKind.u64,1,V.i IntKind.u64 (0)⟩:=by kernel_rfl
theorem a2b_:az_ En.P 204=V.i IntKind.u64 (0):=by kernel_rfl
theorem ay5_:a2_ En.P 207=some ⟨TK.sl 27 1 24 [V.sl true []],1,V.sl true []⟩:=by kernel_rfl
theorem a07_:az_ En.P 207=V.sl true []:=by kernel_rfl
theorem a17_:a2_ En.P 213=some ⟨TK.int IntKind.i64,1,V.i IntKind.i64 (0)⟩:=by kernel_rfl
theorem aze_:az_ En.P 213=V.i IntKind.i64 (0):=by kernel_rfl
theorem a13_:a2_ En.P 216=some ⟨TK.other,1,V.np⟩:=by kernel_rfl
theorem a1a_:az_ En.P 216=V.np:=by kernel_rfl
theorem a0k_:a2_ En.P 234=some ⟨TK.other,1,V.np⟩:=by kernel_rfl
theorem a1n_:az_ En.P 234=V.np:=by kernel_rfl
theorem a1l_:a2_ En.P 235=some ⟨TK.st [(0,1,false),(1,1,false),(2,1,false)],3,V.ag [V.sl true [],V.b false,V.i IntKind.i64 (0)]⟩:=by kernel_rfl
theorem ay4_:az_ En.P 235=V.ag [V.sl true [],V.b false,V.i IntKind.i64 (0)]:=by kernel_rfl
theorem az8_:a2_ En.P 236=some ⟨TK.st [(0,1,false),(1,1,false),(2,1,false)],3,V.ag [V.sl true [],V.b false,V.i IntKind.i64 (0)]⟩:=by kernel_rfl
theorem a0q_:az_ En.P 236=V.ag [V.sl true [],V.b false,V.i IntKind.i64 (0)]:=by kernel_rfl
theorem a1h_:a2_ En.P 243=some ⟨TK.st [(0,1,false),(1,1,false)],2,V.ag [V.i IntKind.u8 (0),V.i IntKind.u8 (0)]⟩:=by kernel_rfl
theorem azj_:az_ En.P 243=V.ag [V.i IntKind.u8 (0),V.i IntKind.u8 (0)]:=by kernel_rfl
theorem azg_:a2_ En.P 244=some ⟨TK.st [(0,1,false),(1,1,false)],2,V.ag [V.i IntKind.u8 (0),V.i IntKind.u8 (0)]⟩:=by kernel_rfl
theorem a2c_:az_ En.P 244=V.ag [V.i IntKind.u8 (0),V.i IntKind.u8 (0)]:=by kernel_rfl
theorem a0p_:a2_ En.P 246=some ⟨TK.int IntKind.u32,1,V.i IntKind.u32 (0)⟩:=by kernel_rfl
theorem azx_:az_ En.P 246=V.i IntKind.u32 (0):=by kernel_rfl
theorem a1g_:a2_ En.P 257=some ⟨TK.int IntKind.u64,1,V.i IntKind.u64 (0)⟩:=by kernel_rfl
theorem azd_:az_ En.P 257=V.i IntKind.u64 (0):=by kernel_rfl
theorem azz_:a2_ En.P 275=some ⟨TK.other,1,V.np⟩:=by kernel_rfl
theorem a14_:az_ En.P 275=V.np:=by kernel_rfl
theorem a0w_:a2_ En.P 276=some ⟨TK.st [(0,1,false)],1,V.ag [V.s []]⟩:=by kernel_rfl
theorem azm_:az_ En.P 276=V.ag [V.s []]:=by kernel_rfl
theorem a0r_:a2_ En.P 277=some ⟨TK.st [(0,1,false)],1,V.ag [V.s []]⟩:=by kernel_rfl
theorem azl_:az_ En.P 277=V.ag [V.s []]:=by kernel_rfl
theorem azw_:a2_ En.P 287=some ⟨TK.st [(0,1,false),(1,1,false),(2,1,false),(3,1,false)],4,V.ag [V.np,V.np,V.np,V.s []]⟩:=by kernel_rfl
theorem a1w_:az_ En.P 287=V.ag [V.np,V.np,V.np,V.s []]:=by kernel_rfl
theorem a19_:a2_ En.P 288=some ⟨TK.st [(0,1,false),(1,1,false),(2,1,false),(3,1,false)],4,V.ag [V.np,V.np,V.np,V.s []]⟩:=by kernel_rfl
theorem a1x_:az_ En.P 288=V.ag [V.np,V.np,V.np,V.s []]:=by kernel_rfl
theorem a2a_:a2_ En.P 290=some ⟨TK.st [(0,0,true)],0,V.ag []⟩:=by kernel_rfl
theorem a03_:az_ En.P 290=V.ag []:=by kernel_rfl
theorem a0c_:a2_ En.P 291=some ⟨TK.st [(0,0,true)],0,V.ag []⟩:=by kernel_rfl
theorem a0i_:az_ En.P 291=V.ag []:=by kernel_rfl
theorem a1u_:a2_ En.P 292=some ⟨TK.int IntKind.u8,1,V.i IntKind.u8 (0)⟩:=by kernel_rfl
theorem azv_:az_ En.P 292=V.i IntKind.u8 (0):=by kernel_rfl
theorem a0t_:a2_ En.P 293=some ⟨TK.int IntKind.u8,1,V.i IntKind.u8 (0)⟩:=by kernel_rfl
theorem a1o_:az_ En.P 293=V.i IntKind.u8 (0):=by kernel_rfl
theorem azs_:a2_ En.P 295=some ⟨TK.int IntKind.i32,1,V.i IntKind.i32 (0)⟩:=by kernel_rfl
theorem az7_:az_ En.P 295=V.i IntKind.i32 (0):=by kernel_rfl
theorem a2d_:a2_ En.P 296=some ⟨TK.int IntKind.i32,1,V.i IntKind.i32 (0)⟩:=by kernel_rfl
theorem a0y_:az_ En.P 296=V.i IntKind.i32 (0):=by kernel_rfl
end
section
theorem vs_ {kids:List E} {k:Nat} (h:k<kids.length) (d:Int):c7_ (kids.drop k) d=(form kids[k] d&&c7_ (kids.drop (k+1)) d):=by
 rw[List.drop_eq_getElem_cons h];simp only[c7_]
theorem amh_ {kids:List E} {k:Nat} (h:kids.length≤k) (d:Int):c7_ (kids.drop k) d=true:=by
 rw[List.drop_of_length_le h];simp only[c7_]
theorem ak1_ {k n:Int} {s:Str} {m:Nat} (h:shape k n s m=true) (hm:m≠0):k=3∧n=0∧m=2∧fm_ s=true∨k=4∧n=0∧m=1∧fe_ s=true:=by
 unfold shape at h
 by_cases k1:k=1
 ·subst k1;simp at h;omega
 by_cases k2:k=2
 ·subst k2;simp at h;omega
 by_cases k3:k=3
 ·subst k3;simp at h;exact .inl ⟨rfl,h.1.1,h.2,h.1.2⟩
 by_cases k4:k=4
 ·subst k4;simp at h;exact .inr ⟨rfl,h.1.1,h.2,h.1.2⟩
 ·simp[k1,k2,k3,k4]at h
theorem vq_ {kids:List E} {k:Nat} (h:k<kids.length) (d:Int):co_ (kids.drop k) d=many kids[k] d+co_ (kids.drop (k+1)) d:=by
 rw[List.drop_eq_getElem_cons h];simp only[co_]
theorem ama_ {kids:List E} {k:Nat} (h:kids.length≤k) (d:Int):co_ (kids.drop k) d=0:=by
 rw[List.drop_of_length_le h];simp only[co_]
mutual
theorem tc_:∀(e:E) (d:Nat),form e d=true→1≤many e d∧many e d≤2 ^ d - 1
 |.mk k n s kids,0,h=>by simp[form]at h
 |.mk k n s kids,d+1,h=>by
  simp only[form,T5_,T3_]at h
  obtain⟨⟨_,h2⟩,h3⟩:=h
  have h4:kids.length≤2:=by
   by_cases hk:kids.length=0
   ·omega
   ·rcases ak1_ h2 hk with⟨_,_,h,_⟩|⟨_,_,h,_⟩<;>omega
  have e1:((d+1:Nat):Int) - 1=(d:Int):=by omega
  rw[e1]at h3
  have:=pi_ kids d h3
  simp only[many]
  rw[if_pos (by omega),e1]
  have h5:(kids.length:Int) * (2 ^ d - 1)≤2 * (2 ^ d - 1):=Int.mul_le_mul_of_nonneg_right (by omega) (by have:(0:Int)<2 ^ d:=Int.pow_pos (by decide);omega)
  have h6:(2:Int) ^ (d+1)=2 * 2 ^ d:=by rw[Int.pow_succ];omega
  omega
theorem pi_:∀(l:List E) (d:Nat),c7_ l d=true→0≤co_ l d∧co_ l d≤l.length * (2 ^ d - 1)
 |[],d,_=>by simp[co_]
 |e::r,d,h=>by
  simp only[c7_,T5_]at h
  have h1:=tc_ e d h.1
  have h2:=pi_ r d h.2
  simp only[co_,T7_]
  have:((r.length+1:Nat):Int) * (2 ^ d - 1)=r.length * (2 ^ d - 1)+(2 ^ d - 1):=by rw[Int.natCast_add,Int.add_mul];simp
  omega
end
theorem af9_ {l:List E} {d:Int}:∀(j:Nat),c7_ l d=true→c7_ (l.drop j) d=true:=by
 induction l with
 |nil=>intro j h;simpa using h
 |cons e r ih=>
  intro j h
  cases j with
  |zero=>simpa using h
  |succ j=>simp only[c7_,T5_]at h;simpa using ih j h.2
theorem qt_ {l:List E} {d:Int} (h:c7_ l d=true):∀e∈l,form e d=true:=by
 induction l with
 |nil=>intro e he;cases he
 |cons x r ih=>
  simp only[c7_,T5_]at h
  intro e he
  rcases List.mem_cons.1 he with rfl|he
  ·exact h.1
  ·exact ih h.2 e he
theorem xh_ (s:Str):decide (0<ap_ s)=fm_ s:=by
 unfold ap_ fm_
 by_cases h1:s=[60]
 ·subst h1;rfl
 by_cases h2:s=[43]
 ·subst h2;rfl
 by_cases h3:s=[45]
 ·subst h3;rfl
 by_cases h4:s=[42]
 ·subst h4;rfl
 ·simp[h1,h2,h3,h4]
mutual
theorem ao2_:∀(e:E) (d p:Int),(wlk e d p).1=true→p<(wlk e d p).2∧(wlk e d p).2≤12
 |.mk k n s kids,d,p,h=>by
  simp only[wlk]at h ⊢
  by_cases h1:5<d∨12<p+1
  ·rw[if_pos h1]at h;cases h
  ·rw[if_neg h1]at h ⊢
   by_cases h2:shape k n s kids.length=true
   ·rw[if_pos h2]at h ⊢
    have:=aip_ kids (d+1) (p+1) (by omega) h
    omega
   ·rw[if_neg h2]at h;cases h
theorem aip_:∀(l:List E) (d p:Int),p≤12→(gd_ l d p).1=true→p≤(gd_ l d p).2∧(gd_ l d p).2≤12
 |[],d,p,hp,_=>by simp only[gd_];omega
 |e::r,d,p,hp,h=>by
  simp only[gd_]at h ⊢
  by_cases h1:(wlk e d p).1=true
  ·rw[if_pos h1]at h ⊢
   have h2:=ao2_ e d p h1
   have h3:=aip_ r d _ h2.2 h
   omega
  ·rw[if_neg h1]at h;cases h
end
theorem xk_ {kids:List E} {k:Nat} (h:k<kids.length) (d p:Int):gd_ (kids.drop k) d p=if (wlk kids[k] d p).1 then gd_ (kids.drop (k+1)) d (wlk kids[k] d p).2 else(false,(wlk kids[k] d p).2):=by
 rw[List.drop_eq_getElem_cons h];simp only[gd_]
theorem aov_ {kids:List E} {k:Nat} (h:kids.length≤k) (d p:Int):gd_ (kids.drop k) d p=(true,p):=by
 rw[List.drop_of_length_le h];simp only[gd_]
def eok (e:E):Bool:=form e 5&&decide (many e 5≤12)
mutual
theorem ab6_:∀(e:E) (dd:Nat) (p:Int),dd≤5→p≤12→
  (wlk e (6 - dd) p).1=(form e dd&&decide (p+many e dd≤12))∧((form e dd&&decide (p+many e dd≤12))=true→(wlk e (6 - dd) p).2=p+many e dd)
 |.mk k n s kids,0,p,hd,hp=>by
  have h:form (.mk k n s kids) ((0:Nat):Int)=false:=by simp[form]
  rw[h]
  simp only[wlk]
  rw[if_pos (by omega)]
  simp
 |.mk k n s kids,dd+1,p,hd,hp=>by
  have e1:(6:Int) - ((dd+1:Nat):Int)+1=6 - (dd:Int):=by omega
  have e2:(((dd+1:Nat):Int)) - 1=(dd:Int):=by omega
  have hml:=tc_ (.mk k n s kids) (dd+1)
  by_cases h1:12<p+1
  ·have hw:wlk (.mk k n s kids) (6 - ((dd+1:Nat):Int)) p=(false,p+1):=by simp only[wlk];rw[if_pos (.inr h1)]
   rw[hw]
   have:(form (.mk k n s kids) ((dd+1:Nat):Int)&&decide (p+many (.mk k n s kids) ((dd+1:Nat):Int)≤12))=false:=by
    rw[Bool.eq_false_iff];intro h
    simp only[T5_,T3_]at h
    have:=hml h.1;omega
   rw[this];simp
  ·have hf:form (.mk k n s kids) ((dd+1:Nat):Int)=(shape k n s kids.length&&c7_ kids (dd:Int)):=by
    simp only[form];rw[e2,show decide ((1:Int)≤((dd+1:Nat):Int))=true by simp;omega];rfl
   have hm:many (.mk k n s kids) ((dd+1:Nat):Int)=1+co_ kids (dd:Int):=by
    simp only[many];rw[if_pos (by omega),e2]
   have hw:wlk (.mk k n s kids) (6 - ((dd+1:Nat):Int)) p=if shape k n s kids.length then gd_ kids (6 - (dd:Int)) (p+1)else(false,p+1):=by
    simp only[wlk];rw[if_neg (by omega),e1]
   rw[hf,hm,hw]
   cases hs:shape k n s kids.length with
   |false=>simp
   |true=>
    have:=ve_ kids dd (p+1) (by omega) (by omega)
    rw[if_pos rfl,Bool.true_and,show p+(1+co_ kids (dd:Int))=p+1+co_ kids (dd:Int) by omega]
    exact this
theorem ve_:∀(l:List E) (dd:Nat) (p:Int),dd≤5→p≤12→
  (gd_ l (6 - dd) p).1=(c7_ l dd&&decide (p+co_ l dd≤12))∧((c7_ l dd&&decide (p+co_ l dd≤12))=true→(gd_ l (6 - dd) p).2=p+co_ l dd)
 |[],dd,p,hd,hp=>by simp[gd_,c7_,co_,hp]
 |e::r,dd,p,hd,hp=>by
  obtain⟨h1,h2⟩:=ab6_ e dd p hd hp
  rw[show c7_ (e::r) (dd:Int)=(form e dd&&c7_ r dd) by simp only[c7_],show co_ (e::r) (dd:Int)=many e dd+co_ r dd by simp only[co_],
   show gd_ (e::r) (6 - (dd:Int)) p=if (wlk e (6 - (dd:Int)) p).1 then gd_ r (6 - (dd:Int)) (wlk e (6 - (dd:Int)) p).2 else(false,(wlk e (6 - (dd:Int)) p).2) by simp only[gd_]]
  by_cases hw:(form e dd&&decide (p+many e dd≤12))=true
  ·have hw1:=h1.trans hw
   have hw2:=h2 hw
   simp only[T5_,T3_]at hw
   rw[if_pos hw1,hw2,hw.1,Bool.true_and,show p+(many e dd+co_ r dd)=p+many e dd+co_ r dd by omega]
   exact ve_ r dd _ hd hw.2
  ·have hw1:(wlk e (6 - (dd:Int)) p).1=false:=by rw[h1];simpa using hw
   have:(form e (dd:Int)&&c7_ r (dd:Int)&&decide (p+(many e dd+co_ r dd)≤12))=false:=by
    rw[Bool.eq_false_iff];intro h
    simp only[T5_,T3_]at h hw
    have:=pi_ r dd h.1.2
    exact hw ⟨h.1.1,by omega⟩
   rw[hw1,this];simp
end
theorem auq_ (e:E):(wlk e 1 0).1=eok e:=by
 have:=(ab6_ e 5 0 (by omega) (by omega)).1
 rw[show(6:Int) - ((5:Nat):Int)=1 by omega]at this
 rw[this];unfold eok;simp
end
section
def E0:E:=.mk 0 0 [] []
theorem E.ind' {P:E→Prop} (h:∀e,(∀x∈e.kids,P x)→P e) (e:E):P e:=E.ind (fun k n s kids ih=>h _ ih) e
theorem am_ {α:Type} {l:List α} {k:Nat} {d:α} (h:k<l.length):l.getD k d∈l:=by
 simp[T8_,T6_ h]
mutual
def sm:E→Bool
 |.mk _ _ s kids=>decide (s.length<4611686018427387904)&&decide (kids.length<1099511627776)&&sms kids
def sms:List E→Bool
 |[]=>true
 |e::r=>sm e&&sms r
end
theorem ck_:∀ {l:List E},sms l=true→∀e∈l,sm e=true
 |[],_,e,he=>by cases he
 |x::l,h,e,he=>by
  simp only[sms,T5_]at h
  rcases List.mem_cons.1 he with rfl|he
  ·exact h.1
  ·exact ck_ h.2 e he
theorem fy_ {e:E} (h:sm e=true):e.s.length<4611686018427387904∧e.kids.length<4611686018427387904∧sms e.kids=true:=by
 cases e;simp only[sm,T5_,T3_]at h;exact⟨h.1.1,Nat.lt_trans h.1.2 (by decide),h.2⟩
theorem au4_ {e:E} (h:sm e=true):e.kids.length<1099511627776:=by
 cases e;simp only[sm,T5_,T3_]at h;exact h.1.2
theorem ii_ {l:List E} {k:Nat} (h:k<l.length):l.getD k E0=l[k]:=by simp[T8_,T6_ h]
theorem ob_ (e:E) (d:Int):form e d=(decide (1≤d)&&shape e.kind e.n e.s e.kids.length&&c7_ e.kids (d - 1)):=by cases e;simp only[form,E.kind,E.n,E.s,E.kids]
mutual
def wf:E→Bool
 |.mk k _ _ kids=>(k != 4||!kids.isEmpty)&&wfs kids
def wfs:List E→Bool
 |[]=>true
 |e::r=>wf e&&wfs r
end
theorem z0_:∀ {l:List E},wfs l=true→∀e∈l,wf e=true
 |[],_,e,he=>by cases he
 |x::l,h,e,he=>by
  simp only[wfs,T5_]at h
  rcases List.mem_cons.1 he with rfl|he
  ·exact h.1
  ·exact z0_ h.2 e he
theorem ar9_ {e:E} (h:wf e=true):(e.kind=4→0<e.kids.length)∧wfs e.kids=true:=by
 cases e with
 |mk k n s kids=>
  simp only[wf,T5_]at h
  refine⟨fun hk=>?_,h.2⟩
  simp only[E.kind]at hk
  subst hk
  have:=h.1
  simp only[E.kids]
  cases kids with
  |nil=>simp at this
  |cons a b=>simp
theorem yl_ {e:E} (h:e.kind=4) (hk:0<e.kids.length):bare e=bare (e.kids.getD 0 E0):=by
 cases e with
 |mk k n s kids=>
  simp only[E.kind]at h
  simp only[E.kids]at hk
  subst h
  cases kids with
  |nil=>simp at hk
  |cons a b=>simp[bare,abw_,E.kids]
theorem qk_ {e:E} (h:e.kind≠4):bare e = .mk e.kind e.n e.s (eb_ e.kids):=by
 cases e with
 |mk k n s kids=>simp only[E.kind]at h;simp[bare,h,E.kind,E.n,E.s,E.kids]
theorem ir_:∀l:List E,(eb_ l).length=l.length
 |[]=>by simp[eb_]
 |e::r=>by simp[eb_,ir_ r]
theorem ru_:∀l:List E,eb_ l=l.map bare
 |[]=>by simp[eb_]
 |e::r=>by simp[eb_,ru_ r]
theorem aga_ {l:List E} {k:Nat} (h:k<l.length):eb_ (l.take (k+1))=eb_ (l.take k)++[bare (l.getD k E0)]:=by
 rw[ru_,ru_,List.take_add_one,T6_ h,T8_,T6_ h,List.map_append]
 rfl
mutual
def pla:E→Bool
 |.mk k _ _ kids=>k != 4&&md_ kids
def md_:List E→Bool
 |[]=>true
 |e::r=>pla e&&md_ r
end
theorem uf_ (e:E):pla e=(e.kind != 4&&md_ e.kids):=by cases e;simp only[pla,E.kind,E.kids]
end
section
mutual
def eC:E→List V
 |.mk k n s kids=>[.i .i64 k,.i .i64 n,.s s,.sl false (eR kids)]
def eR:List E→List (List V)
 |[]=>[]
 |e::r=>eC e::eR r
end
theorem gu_ (e:E):eC e=[.i .i64 e.kind,.i .i64 e.n,.s e.s,.sl false (eR e.kids)]:=by cases e;simp only[eC,E.kind,E.n,E.s,E.kids]
theorem q0_:∀l:List E,eR l=l.map eC
 |[]=>by simp only[eR,List.map_nil]
 |e::r=>by simp only[eR,List.map_cons,q0_ r]
theorem qy_ (l:List E):(eR l).length=l.length:=by rw[q0_,List.length_map]
theorem b7_ {l:List E} {k:Nat} (h:k<l.length):(eR l).getD k []=eC (l.getD k E0):=by
 rw[q0_];simp[T8_,T6_ h]
mutual
theorem avn_:∀e:E,bv_ (eC e)=true
 |.mk k n s kids=>by simp only[eC,bv_,V.pure,ht_ kids,Bool.and_self]
theorem ht_:∀l:List E,bh_ (eR l)=true
 |[]=>by simp only[eR,bh_]
 |e::r=>by simp only[eR,bh_,avn_ e,ht_ r,Bool.and_self]
end
def byR (b:Str):List (List V):=b.map fun c=>[.i .u8 c.toNat]
theorem mw_ (b:Str):(byR b).length=b.length:=by simp[byR]
theorem je_:∀b:Str,bh_ (byR b)=true
 |[]=>rfl
 |c::b=>by simp only[byR,List.map_cons,bh_,bv_,V.pure,Bool.true_and];exact je_ b
theorem byR_get {b:Str} {k:Nat} (h:k<b.length):(byR b).getD k []=[.i .u8 (b.getD k 0).toNat]:=by
 simp[byR,T8_,T6_ h]
theorem aqb_ (b:Str) (k:Nat):(byR b).take k=byR (b.take k):=by simp[byR,List.map_take]
theorem a02_ (a b c:Nat) (d:List V):(∃el z y zc,some (TK.sl a b c d)=some (TK.sl el z y zc))=True:=eq_true ⟨a,b,c,d,rfl⟩
end
section
attribute [go_sem] lxs aqf_ gE gO evO obO aru_ ari_ St.pv St.ev peel dj_ pcB Op.operands Call.operands V.ofConst V.ofConst1 nm av7_ av5_ x7_ aod_ av8_ idxV idxC maxV minV pe_ jl_ tySt tySz TK.agg awh_ ago_ adh_ aiy_ adt_ ajw_ yr_ ais_ zf_ aaa_ aunV aunC q3_ ldV ldC cd_ stV okC stC fldV fldC ixaV ixaC r5_ ll_ hr_ isC ss_ extV extC lenV lenC slcV slcC bndC ioV rx_ appC appE mkE V.one V.cells isB i4_ gx_ al9_ af3_ wy_ delM wrL pt_ et_ if_ rnB rn rns rnr ab_ bf_ kh_ a4_ agf_ qr_ awe_ awc_ awg_ newE qe_ aje_ nilO nilV xz_ aki_ arl_ List.head?_cons List.head?_nil pa_ ug_ abi_ lend les leV ler fp_ gn_ af_ bsO bsE cvO cvV h8_ frz er_ ij_ frzB ql_ at_ bm_ bv_ bh_ V.pure cls clr V.cl rz_ V.flat us List.getD_cons_zero List.getD_cons_succ List.getD_nil List.set_cons_zero List.set_cons_succ List.set_nil List.getElem?_cons_zero List.getElem?_cons_succ List.getElem?_nil Option.map_some Option.map_none Option.bind_some Option.bind_none Option.getD_some Option.getD_none Option.isSome_some Option.isNone_none Option.isNone_some Option.toArray_some Option.toArray_none List.toList_toArray List.map_cons List.map_nil List.append_nil List.nil_append List.cons_append List.all_cons List.all_nil List.all_append List.isEmpty_nil List.isEmpty_cons List.reverse_cons List.reverse_nil List.drop_zero List.drop_succ_cons List.drop_nil List.take_zero List.take_succ_cons List.take_nil T7_ List.length_nil List.zip_cons_cons List.zip_nil_left List.zip_nil_right List.flatMap_cons List.flatMap_nil List.replicate_succ List.replicate_zero Array.toList_append List.getElem?_toArray Array.getD_eq_getD_getElem? Bool.true_and Bool.and_true Bool.false_and Bool.and_false Bool.not_true Bool.not_false Bool.and_self beq_self_eq_true and_true true_and and_self cond_true cond_false if_true if_false ite_true ite_false decide_true decide_false Bool.decide_eq_true true_implies implies_true imp_self Nat.zero_add Nat.le_refl Nat.add_zero Nat.zero_mul Int.toNat_zero List.contains_nil List.contains_cons Bool.or_false Bool.or_true Bool.false_or Bool.true_or T9_ Ta_ eq_self List.append_toArray Bool.false_eq_true Array.size_empty List.push_toArray List.size_toArray Array.toList_map Array.toList_empty Bool.cond_false_right Bool.cond_true_left beq_true beq_false Int.toNat_natCast al_ aq_ ml_ be_ kk_ kr_ gu_ qy_ ht_ axu_ mw_ je_ aqb_ a02_ ifO maxO arm_ alq_ apv_ ao6_ ayp_ aso_ axh_ ty2 zo2 ty3 zo3 ty4 zo4 ty5 zo5 ty6 zo6 ty7 zo7 ty8 zo8 ty9 zo9 ty10 zo10 ty11 zo11 ty12 zo12 ty13 zo13 ty14 zo14 ty15 zo15 ty16 zo16 ty17 zo17 ty18 zo18 ty19 zo19 ty21 zo21 ty24 zo24 ty27 zo27 ty29 zo29 ty34 zo34 ty35 zo35 ty36 zo36 ty37 zo37 ty38 zo38 ty39 zo39 ty49 zo49 ty51 zo51 ty54 zo54 ty55 zo55 ty56 zo56 ty57 zo57 ty58 zo58 ty65 zo65 ty66 zo66 ty67 zo67 ty79 zo79 ty80 zo80 ty81 zo81 ty82 zo82 ty83 zo83 ty97 zo97 azi_ a1q_ a06_ azy_ a2e_ a00_ a0l_ ay2_ a0e_ azq_ ay7_ a01_ a18_ az5_ a1t_ az2_ a15_ azk_ a1y_ a1k_ a11_ a0j_ a1p_ a1d_ az3_ a0h_ a1v_ a1j_ azh_ a0b_ azf_ a1e_ azt_ a1i_ azu_ a2b_ ay5_ a07_ a17_ aze_ a13_ a1a_ a0k_ a1n_ a1l_ ay4_ az8_ a0q_ a1h_ azj_ azg_ a2c_ a0p_ azx_ a1g_ azd_ azz_ a14_ a0w_ azm_ a0r_ azl_ azw_ a1w_ a19_ a1x_ a2a_ a03_ a0c_ a0i_ a1u_ azv_ a0t_ a1o_ azs_ az7_ a2d_ a0y_
open Go.RowKit
section
variable {E:Env} {C:Cx} {s s':St} {Q:Exit→St→Prop} {id:Nat} {l:List Oper} {p:Prop} {es:List Eff}
/-! the same rules, the reckoning by default -/
theorem aa_ {f:FuncId} {fn:Func} {c:Code} {vs rs σ0:List V} {L0 Lr:List Blk} {n:Nat} {M0:List (Nat × Blk)} (η:List Nat) (hf:E.P.funcs[f]? = some fn) (hn:fn.ntmps=n) (h:∀C,AWp E C c (fun e s=>(e = .normal∨e = .ret)∧Out E fn L0.length rs Lr η s) ⟨σ0,ak_ M0,us []⟩) (hb:fn.body=some c:=by rfl) (hname:(fn.name== "runtime.NumGoroutine")=false:=by rfl) (hk:L0.length≤10:=by simp)
  (hσ:vs++List.replicate (n - vs.length) .no=σ0:=by simp only[T7_,List.length_nil,Nat.reduceAdd,Nat.reduceSub,List.replicate_succ,List.replicate_zero,List.cons_append,List.nil_append];rfl) (hM:s0_ 0 L0=M0:=by simp only[s0_];rfl):ACall E f vs L0 rs Lr:=by
 subst hσ hM hn
 refine wr_ η hf hb hname hk fun C=>?_
 rw[u8_];exact h C
theorem acall_bE {f:FuncId} {fn:Func} {c:Code} {vs rs σ0:List V} {L0 Lr:List Blk} {n:Nat} {M0:List (Nat × Blk)} (hf:E.P.funcs[f]? = some fn) (hn:fn.ntmps=n) (h:∀C,AWp E C c (fun e s=>(e = .normal∨e = .ret)∧∃η,Out E fn L0.length rs Lr η s) ⟨σ0,ak_ M0,us []⟩) (hb:fn.body=some c:=by rfl) (hname:(fn.name== "runtime.NumGoroutine")=false:=by rfl) (hk:L0.length≤10:=by simp)
  (hσ:vs++List.replicate (n - vs.length) .no=σ0:=by simp only[T7_,List.length_nil,Nat.reduceAdd,Nat.reduceSub,List.replicate_succ,List.replicate_zero,List.cons_append,List.nil_append];rfl) (hM:s0_ 0 L0=M0:=by simp only[s0_];rfl):ACall E f vs L0 rs Lr:=by
 subst hσ hM hn
 refine lu_ hf hb hname hk fun C=>?_
 rw[u8_];exact h C
theorem AWp.rg (cs:List (CallC E)) (k:Q .normal s') (h:lxs E [] l.toArray l s cs [] True=(p,es,s'):=by simp only[go_sem,seval];rfl) (hp:p:=by first|trivial|(simp;done)):AWp E C (.region id l.toArray false) Q s:=AWp.rgn cs h hp k
theorem AWp.rgo (cs:List (CallC E)) (hp:p) (k:Q .normal s') (h:lxs E [] l.toArray l s cs [] True=(p,es,s'):=by simp only[go_sem,seval];rfl):AWp E C (.region id l.toArray false) Q s:=AWp.rgn cs h hp k
theorem AWp.rgS (sel:List Nat) (cs:List (CallC E)) (k:Q .normal s') (h:lxs E sel l.toArray l s cs [] True=(p,es,s'):=by simp only[go_sem,seval];rfl) (hp:p:=by first|trivial|(simp;done)):AWp E C (.region id l.toArray false) Q s:=AWp.rgnS sel cs h hp k
theorem AWp.rgSo (sel:List Nat) (cs:List (CallC E)) (hp:p) (k:Q .normal s') (h:lxs E sel l.toArray l s cs [] True=(p,es,s'):=by simp only[go_sem,seval];rfl):AWp E C (.region id l.toArray false) Q s:=AWp.rgnS sel cs h hp k
theorem AWp.rgD (cs:List (CallC E)) (k:Q .normal s') (h:lxs E [] l.toArray l s cs [] True=(p,es,s'):=by simp only[go_sem,seval];rfl) (hB:ji_ l.toArray (es.map cr_)=true:=by rfl) (hp:p:=by first|trivial|(simp;done)) (hm:E.P.follows .mixedOrders=true:=by exact enM):AWp E C (.region id l.toArray true) Q s:=AWp.rgnD cs hm h hB hp k
theorem AWp.rgDo (cs:List (CallC E)) (hp:p) (k:Q .normal s') (h:lxs E [] l.toArray l s cs [] True=(p,es,s'):=by simp only[go_sem,seval];rfl) (hB:ji_ l.toArray (es.map cr_)=true:=by rfl) (hm:E.P.follows .mixedOrders=true:=by exact enM):AWp E C (.region id l.toArray true) Q s:=AWp.rgnD cs hm h hB hp k
theorem AWp.rgDS (sel:List Nat) (cs:List (CallC E)) (k:Q .normal s') (h:lxs E sel l.toArray l s cs [] True=(p,es,s'):=by simp only[go_sem,seval];rfl) (hB:ji_ l.toArray (es.map cr_)=true:=by rfl) (hp:p:=by first|trivial|(simp;done)) (hm:E.P.follows .mixedOrders=true:=by exact enM):AWp E C (.region id l.toArray true) Q s:=AWp.rgnDS sel cs hm h hB hp k
theorem AWp.rgDSo (sel:List Nat) (cs:List (CallC E)) (hp:p) (k:Q .normal s') (h:lxs E sel l.toArray l s cs [] True=(p,es,s'):=by simp only[go_sem,seval];rfl) (hB:ji_ l.toArray (es.map cr_)=true:=by rfl) (hm:E.P.follows .mixedOrders=true:=by exact enM):AWp E C (.region id l.toArray true) Q s:=AWp.rgnDS sel cs hm h hB hp k
theorem AWp.cB {c:Operand} {x y:Code} {t:Bool} (h1:t=true→AWp E C x Q s) (h0:t=false→AWp E C y Q s) (hc:s.pv E c = .b t:=by simp only[go_sem,seval];rfl) (hp:dj_ (s.ev E c)=true:=by simp only[go_sem,seval]):AWp E C (.cond c x y) Q s:=AWp.condB hc hp h1 h0
theorem Can.wl {σ σ':List V} {L L':List (Nat × Blk)} {U U':List Nat} (h:les σ σ':=by simp only[go_sem,seval,ae_,leV,ac_,ad_,V.inn,us,T9_,Ta_]) (hi:ac_ (us U') σ'=true:=by simp only[go_sem,seval,ae_,leV,ac_,ad_,V.inn,us,T9_,Ta_]) (hL:ae_ L U' L':=by simp only[go_sem,seval,ae_,leV,ac_,ad_,V.inn,us,T9_,Ta_]):Can E C ⟨σ,ak_ L,us U⟩ ⟨σ',ak_ L',us U'⟩:=Can.weak (Weak.lit h hi hL)
theorem Can.sX {σ σ':List V} {L L':List (Nat × Blk)} {U U':List Nat} (l l':Nat) (hl:10≤l:=by decide) (hl':10≤l':=by decide) (hb:l<200:=by decide) (hb':l'<200:=by decide) (hc:cls 200 σ=true:=by simp only[go_sem,seval,V.cl]) (hm:(L.all fun p=>decide (p.1<200)&&clr 200 p.2.rows)=true:=by simp only[go_sem,seval,V.cl]) (h1:rns (swL l l') σ=σ':=by simp only[go_sem,seval,ah_,sw,swM,rnB]<;>rfl) (h2:swM l l' L=L':=by simp only[go_sem,seval,ah_,sw,swM,rnB]<;>rfl) (h3:U.map (sw l l')=U':=by simp only[go_sem,seval,ah_,sw,swM,rnB]<;>rfl):Can E C ⟨σ,ak_ L,us U⟩ ⟨σ',ak_ L',us U'⟩:=Can.swap l l' hl hl' hb hb' hc hm h1 h2 h3
theorem AWp.fX {c:Code} {σ σ':List V} {L L':List (Nat × Blk)} {U:List Nat} {b:Blk} (l:Nat) (h:AWp E C c Q ⟨σ',ak_ L',us U⟩) (hb:ak_ L l=some b:=by simp only[go_sem,seval];rfl) (hi:bh_ b.rows=true:=by simp only[go_sem,seval]) (h1:er_ l b.z b.rows σ=σ':=by simp only[go_sem,seval];rfl) (h2:ql_ l b L=L':=by simp only[go_sem,seval];rfl):AWp E C c Q ⟨σ,ak_ L,us U⟩:=AWp.frz l hb hi h1 h2 h
theorem Can.wh {p:Prop} {σ σ':List V} {L L':List (Nat × Blk)} {U U':List Nat} (h:p) (h0:les σ σ'=p:=by simp only[go_sem,seval,ae_,leV,ac_,ad_,V.inn,us,T9_,Ta_];rfl) (hi:ac_ (us U') σ'=true:=by simp only[go_sem,seval,ae_,leV,ac_,ad_,V.inn,us,T9_,Ta_]) (hL:ae_ L U' L':=by simp only[go_sem,seval,ae_,leV,ac_,ad_,V.inn,us,T9_,Ta_]):Can E C ⟨σ,ak_ L,us U⟩ ⟨σ',ak_ L',us U'⟩:=Can.wl (by rw[h0];exact h) hi hL
theorem Can.wk {p q:Prop} {σ σ':List V} {L L':List (Nat × Blk)} {U U':List Nat} (h:p) (k:q) (h0:les σ σ'=p:=by simp only[go_sem,seval,ae_,leV,ac_,ad_,V.inn,us,T9_,Ta_];rfl) (hi:ac_ (us U') σ'=true:=by simp only[go_sem,seval,ae_,leV,ac_,ad_,V.inn,us,T9_,Ta_]) (k0:ae_ L U' L'=q:=by simp only[go_sem,seval,ae_,leV,ac_,ad_,V.inn,us,T9_,Ta_];rfl):Can E C ⟨σ,ak_ L,us U⟩ ⟨σ',ak_ L',us U'⟩:=Can.wl (by rw[h0];exact h) hi (by rw[k0];exact k)
theorem Can.wm {q:Prop} {σ σ':List V} {L L':List (Nat × Blk)} {U U':List Nat} (k:q) (h:les σ σ':=by simp only[go_sem,seval,ae_,leV,ac_,ad_,V.inn,us,T9_,Ta_]) (hi:ac_ (us U') σ'=true:=by simp only[go_sem,seval,ae_,leV,ac_,ad_,V.inn,us,T9_,Ta_]) (k0:ae_ L U' L'=q:=by simp only[go_sem,seval,ae_,leV,ac_,ad_,V.inn,us,T9_,Ta_];rfl):Can E C ⟨σ,ak_ L,us U⟩ ⟨σ',ak_ L',us U'⟩:=Can.wl h hi (by rw[k0];exact k)
variable {fn:Func} {rs:List V} {lr:List ResultVar}
theorem Out.pl (hl:fn.results.toList=lr) (h2:lr.map (ag_ E.P s)=rs) (h1:a8_ E.P s lr:=by simp only[a8_,b4_,go_sem,seval]<;>(split<;>rfl)) (h3:bv_ rs=true:=by simp only[go_sem,seval]):Out E fn 0 rs [] [] s:=Out.plain hl h1 h2 h3
theorem Out.plL (hl:fn.results.toList=lr) (h2:les (lr.map (ag_ E.P s)) rs) (h1:a8_ E.P s lr:=by simp only[a8_,b4_,go_sem,seval]<;>(split<;>rfl)) (h3:bv_ rs=true:=by simp only[go_sem,seval]):Out E fn 0 rs [] [] s:=Out.plainL hl h1 h2 h3
theorem Out.mm {k:Nat} {Lr:List Blk} {η:List Nat} (hl:fn.results.toList=lr) (h2:lr.map (ag_ E.P s)=rns η rs) (h8:at_ s.m η η Lr) (h1:a8_ E.P s lr:=by simp only[a8_,b4_,go_sem,seval]) (h3:k≤Lr.length:=by simp) (h4:η.take k=List.range k:=by rfl) (h5:η.Nodup:=by decide) (h6:cls Lr.length rs=true:=by simp only[go_sem,seval]) (h7:bm_ Lr.length Lr=true:=by simp only[bm_,go_sem,seval]):Out E fn k rs Lr η s:=Out.mem' hl h1 h2 h3 h4 h5 h6 h7 h8
theorem Out.mmL {k:Nat} {Lr:List Blk} {η:List Nat} (hl:fn.results.toList=lr) (h2:les (lr.map (ag_ E.P s)) (rns η rs)) (h8:at_ s.m η η Lr) (h1:a8_ E.P s lr:=by simp only[a8_,b4_,go_sem,seval]) (h3:k≤Lr.length:=by simp) (h4:η.take k=List.range k:=by rfl) (h5:η.Nodup:=by decide) (h6:cls Lr.length rs=true:=by simp only[go_sem,seval]) (h7:bm_ Lr.length Lr=true:=by simp only[bm_,go_sem,seval]):Out E fn k rs Lr η s:=Out.memL' hl h1 h2 h3 h4 h5 h6 h7 h8
end
end
section
set_option maxRecDepth 100000
set_option maxHeartbeats 4000000
theorem sz_ (n lo hi:Int):ACall En 94 [.i .i64 n,.i .i64 lo,.i .i64 hi] [] [.b (decide (lo≤n)&&decide (n≤hi))] []:=by
 refine aa_ [] Tryz.func94 Tryz.ntmps94 fun C=>?_
 refine .seq (.rg [] ?_)
 refine .seq (.rg [] ?_)
 refine .ret ⟨.inr rfl,?_⟩
 exact Out.pl (by simp only[Tryz.results94];rfl) (by simp only[ag_,go_sem,seval]<;>(rfl))
theorem v0_ (c:UInt8):ACall En 250 [.i .u8 c.toNat] [] [.b (ch_ c)] []:=by
 refine aa_ [] Tryz.func250 Tryz.ntmps250 fun C=>?_
 refine .seq (.rg [] ?_)
 refine .seq (.rg [] ?_)
 refine .ret ⟨.inr rfl,?_⟩
 exact Out.pl (by simp only[Tryz.results250];rfl) (by simp only[ag_,go_sem,seval]<;>(simp only[ch_]))
theorem alo_ (c:UInt8):ACall En 251 [.i .u8 c.toNat] [] [.b (b1_ c)] []:=by
 refine aa_ [] Tryz.func251 Tryz.ntmps251 fun C=>?_
 refine .seq (.rg [] ?_)
 refine .seq (.rg [] ?_)
 refine .ret ⟨.inr rfl,?_⟩
 exact Out.pl (by simp only[Tryz.results251];rfl) (by simp only[ag_,go_sem,seval]<;>(simp only[b1_]))
theorem ack_ (s:Str):ACall En 199 [.s s] [] [.b (fe_ s)] []:=by
 refine aa_ [] Tryz.func199 Tryz.ntmps199 fun C=>?_
 refine .seq (.rg [] ?_)
 refine .seq (.rg [] ?_)
 refine .ret ⟨.inr rfl,?_⟩
 exact Out.pl (by simp only[Tryz.results199];rfl) (by simp only[ag_,go_sem,seval]<;>(simp only[fe_]))
theorem li_ (s:Str):ACall En 261 [.s s] [] [.i .i64 (ap_ s)] []:=by
 refine aa_ [] Tryz.func261 Tryz.ntmps261 fun C=>?_
 refine .seq (.rg [] ?_)
 refine .seq (.seq (.rg [] ?_))
 refine .block (.seq (.rg [] ?_))
 refine .cB (fun h4=>?_) (fun h4=>?_)
 ·refine .seq (.rg [] ?_)
  refine .ret ⟨.inr rfl,?_⟩
  exact Out.pl (by simp only[Tryz.results261];rfl) (by simp only[ag_,go_sem,seval]<;>(simp only[ap_];simp_all))
 ·refine .seq (.seq (.rg [] ?_))
  refine .cB (fun h6=>?_) (fun h6=>?_)
  ·refine .skip (.cB (fun h6=>?_) (fun h6=>?_))
   ·refine .seq (.rg [] ?_)
    refine .ret ⟨.inr rfl,?_⟩
    exact Out.pl (by simp only[Tryz.results261];rfl) (by simp only[ag_,go_sem,seval]<;>(simp only[ap_];simp_all))
   ·refine .seq (.rg [] ?_)
    refine .cB (fun h9=>?_) (fun h9=>?_)
    ·refine .seq (.rg [] ?_)
     refine .ret ⟨.inr rfl,?_⟩
     exact Out.pl (by simp only[Tryz.results261];rfl) (by simp only[ag_,go_sem,seval]<;>(simp only[ap_];simp_all))
    ·refine .skip (.seq (.rg [] ?_))
     refine .ret ⟨.inr rfl,?_⟩
     exact Out.pl (by simp only[Tryz.results261];rfl) (by simp only[ag_,go_sem,seval]<;>(simp only[ap_];simp_all))
  ·refine .rg [] ?_
   refine .cB (fun h6=>?_) (fun h6=>?_)
   ·refine .seq (.rg [] ?_)
    refine .ret ⟨.inr rfl,?_⟩
    exact Out.pl (by simp only[Tryz.results261];rfl) (by simp only[ag_,go_sem,seval]<;>(simp only[ap_];simp_all))
   ·refine .seq (.rg [] ?_)
    refine .cB (fun h9=>?_) (fun h9=>?_)
    ·refine .seq (.rg [] ?_)
     refine .ret ⟨.inr rfl,?_⟩
     exact Out.pl (by simp only[Tryz.results261];rfl) (by simp only[ag_,go_sem,seval]<;>(simp only[ap_];simp_all))
    ·refine .skip (.seq (.rg [] ?_))
     refine .ret ⟨.inr rfl,?_⟩
     exact Out.pl (by simp only[Tryz.results261];rfl) (by simp only[ag_,go_sem,seval]<;>(simp only[ap_];simp_all))
theorem o7_ (s:Str):ACall En 103 [.s s] [] [.b (fe_ s)] []:=by
 refine aa_ [] Tryz.func103 Tryz.ntmps103 fun C=>?_
 refine .seq (.rg [] ?_)
 refine .seq (.rg [] ?_)
 refine .ret ⟨.inr rfl,?_⟩
 exact Out.pl (by simp only[Tryz.results103];rfl) (by simp only[ag_,go_sem,seval]<;>(simp only[fe_]))
theorem ark_ (s:Str):ACall En 237 [.s s] [] [.b (fm_ s)] []:=by
 refine aa_ [] Tryz.func237 Tryz.ntmps237 fun C=>?_
 refine .seq (.rg [] ?_)
 refine .seq (.rg [] ?_)
 refine .ret ⟨.inr rfl,?_⟩
 exact Out.pl (by simp only[Tryz.results237];rfl) (by simp only[ag_,go_sem,seval]<;>(simp only[fm_]))
theorem arq_ (s:Str):ACall En 169 [.s s] [] [.b (jn_ s)] []:=by
 refine aa_ [] Tryz.func169 Tryz.ntmps169 fun C=>?_
 refine .seq (.rg [] ?_ (h:=by simp (maxSteps:=1000000) only[go_sem,seval];rfl))
 refine .seq (.rg [ab_ (o7_ s)] ?_ (h:=by simp (maxSteps:=1000000) only[go_sem,seval];rfl))
 refine .ret ⟨.inr rfl,?_⟩
 exact Out.pl (by simp only[Tryz.results169];rfl) (by simp only[ag_,go_sem,seval]<;>(simp only[jn_])) (h1:=by simp only[a8_,b4_,go_sem,seval]<;>(split<;>rfl)) (h3:=by simp (maxSteps:=1000000) only[go_sem,seval])
end
section
set_option maxRecDepth 100000
set_option maxHeartbeats 4000000
abbrev wr (n:Int):Int:=IntKind.i64.wrap n
def mixI (b:Str) (k:Int):Int:=wr (wr (wr (wr ((b.getD (k.tmod b.length).toNat 0).toNat * 131)+wr ((b.getD ((k * 7+3).tmod b.length).toNat 0).toNat * 1117))+wr (k * 29))+wr (wr (k.tdiv b.length) * 53))
def mixX (b:Str) (k:Int):Int:=IntKind.i64.wrap (BitVec.ofInt IntKind.i64.bits (mixI b k) ^^^ BitVec.ofInt IntKind.i64.bits (IntKind.i64.wrap ((mixI b k).tdiv 64))).toNat
def o8_ (b:Str) (p n:Int):Int:=
 if n<1∨b.length=0 then 0 else if p<b.length then((b.getD p.toNat 0).toNat:Int).tmod n else(mixX b p).tmod n
end
section
set_option maxRecDepth 100000
set_option maxHeartbeats 4000000
def inR (l:List Int):List (List V):=l.map fun n=>[.i .i64 n]
theorem as_ (l:List Int):(inR l).length=l.length:=by simp[inR]
theorem c8_ {l:List Int} {k:Nat} (h:k<l.length):(inR l).getD k []=[.i .i64 (l.getD k 0)]:=by
 simp[inR,T8_,T6_ h]
theorem ao_:∀l:List Int,bh_ (inR l)=true
 |[]=>rfl
 |n::l=>by simp only[inR,List.map_cons,bh_,bv_,V.pure,Bool.true_and];exact ao_ l
theorem s6_:inR []=[]:=rfl
theorem jc_ (n:Int) (l:List Int):inR (n::l)=[.i .i64 n]::inR l:=rfl
theorem pv_:an_ []=[]:=rfl
theorem q5_ (s:Str) (l:List Str):an_ (s::l)=[.s s]::an_ l:=rfl
def numI (b:Str) (p:Int) (l:List Int):Int:=l.getD (o8_ b p l.length).toNat 0
def ofI (b:Str) (p:Int) (l:List Str):Str:=l.getD (o8_ b p l.length).toNat []
end
section
set_option maxRecDepth 100000
set_option maxHeartbeats 4000000
theorem apb_ (p:UInt8→Bool):∀(s:Str) (k:Nat),k≤s.length→(s.take k).all p=true→(∀c,s[k]? = some c→p c=false)→(s.takeWhile p).length=k
 |[],k,h,_,_=>by simp at h;simp[h]
 |c::s,0,_,_,h=>by simp[h c (by simp)]
 |c::s,k+1,h,h1,h2=>by
  simp only[List.take_succ_cons,List.all_cons,T5_]at h1
  rw[List.takeWhile_cons_of_pos h1.1,T7_,apb_ p s k (by simpa using h) h1.2 (by simpa using h2)]
theorem acy_ (p:UInt8→Bool) (s:Str) (k:Nat) (h:k<s.length):(s.take (k+1)).all p=((s.take k).all p&&p (s.getD k 0)):=by
 rw[List.take_add_one,T6_ h,List.all_append,T8_,T6_ h]
 simp
theorem apu_ (p:UInt8→Bool) (F:Nat) (hF:∀c:UInt8,ACall En F [.i .u8 c.toNat] [] [.b (p c)] []) (s:Str) (hs:s.length<4611686018427387904):ACall En 249 [.s s,.fn (.func F) [] []] [] [.i .i64 (s.takeWhile p).length] []:=by
 refine aa_ [] Tryz.func249 Tryz.ntmps249 fun C=>?_
 refine .seq (.rg [] ?_)
 refine .seq (.rg [] ?_)
 refine .seq (.block (.loopK (fun k:Nat=>⟨[.s s,.fn (.func F) [] [],.no,.no,.i .i64 0,.i .i64 k,.no,.no,.no,.no,.no,.no,.no,.no,.no,.no,.no,.no,.no,.no],ak_ [],us []⟩) (fun k:Nat=>k≤s.length∧(s.take k).all p=true) (fun k:Nat=>s.length - k) (0) ?_ ?_ (fun k hI=>?_)))
 ·simp
 ·refine Can.wh ?_;first|trivial|(simp)
 refine .seq (.seq (.rg [ab_ (hF (s.getD k 0))] ?_))
 refine .cB (fun h16=>?_) (fun h16=>?_)
 ·refine .skip (.block (.rg [] ?_))
  refine Exists.intro (k+1) ⟨?_,?_,?_⟩
  ·have h2:k<s.length∧p (s.getD k 0)=true:=(by simpa using h16);exact⟨by omega,by rw[acy_ p s k h2.1,hI.2,h2.2];rfl⟩
  ·have h2:k<s.length∧p (s.getD k 0)=true:=(by simpa using h16);omega
  refine Can.wh ?_;first|trivial|(rw[aj_ (by omega) (by omega)];simp)
 ·refine .exit (.seq (.rg [] ?_))
  refine .ret ⟨.inr rfl,?_⟩
  exact Out.pl (by simp only[Tryz.results249];rfl) (by simp only[ag_,go_sem,seval]<;>(rw[apb_ p s k hI.1 hI.2];intro c hc;have:=(List.getElem?_eq_some_iff.1 hc).1;simp_all))
end
section
set_option maxRecDepth 100000
set_option maxHeartbeats 4000000
theorem un_ {l:List Str} {s:Str} {k:Nat} (h:k<l.length) (h1:∀x∈l.take k,x≠s) (h2:l.getD k []=s):s∈l∧l.idxOf s=k:=by
 rw[T8_,T6_ h]at h2
 simp only[Option.getD_some]at h2
 refine⟨by rw[←h2];exact List.getElem_mem h,?_⟩
 have e:=List.take_append_drop k l
 rw[List.drop_eq_getElem_cons h,h2]at e
 have hn:¬s∈l.take k:=fun hm=>h1 _ hm rfl
 rw[←e,List.idxOf_append,if_neg hn]
 simp[List.length_take,Nat.min_eq_left (Nat.le_of_lt h)]
theorem aah_ (l:List Str) (s:Str) (hl:l.length<4611686018427387904):ACall En 196 [.sl false (an_ l),.s s] [] [.i .i64 (bj_ l s)] []:=by
 refine aa_ [] Tryz.func196 Tryz.ntmps196 fun C=>?_
 refine .seq (.rg [] ?_)
 refine .seq (.seq (.rg [] ?_))
 refine .block (.loopK (fun k:Nat=>⟨[.sl false (an_ l),.s s,.no,.no,.i .i64 0,.no,.no,.i .i64 l.length,.i .i64 k,.no,.no,.no,.no,.no,.no,.no,.no,.no,.no],ak_ [],us []⟩) (fun k:Nat=>k≤l.length∧∀x∈l.take k,x≠s) (fun k:Nat=>l.length - k) (0) ?_ ?_ (fun k hI=>?_))
 ·simp
 ·refine Can.wh ?_;first|trivial|(simp)
 refine .seq (.rg [] ?_)
 refine .seq (.cB (fun h9=>?_) (fun h9=>?_))
 ·refine .skip (.seq (.block (.seq (.rg [] ?_))))
  refine .seq (.rgo [] ?_ ?_ (h:=by simp only[go_sem,seval,aw_ (show k<l.length by simpa using h9)];rfl))
  ·simp at h9;simp[al_,h9]
  refine .cB (fun h16=>?_) (fun h16=>?_)
  ·refine .seq (.rg [] ?_)
   refine .ret ⟨.inr rfl,?_⟩
   exact Out.pl (by simp only[Tryz.results196];rfl) (by simp only[ag_,go_sem,seval]<;>(simp at h9;obtain⟨g1,g2⟩:=un_ h9 hI.2 (by simpa using(eq_of_beq h16).symm);simp[bj_,g1,g2]))
  ·refine .skip (.rg [] ?_)
   refine Exists.intro (k+1) ⟨?_,?_,?_⟩
   ·simp at h9;refine⟨by omega,fun x hx=>?_⟩;rw[List.take_add_one,List.mem_append,T6_ h9]at hx;rcases hx with hx|hx;exact hI.2 x hx;simp at hx;subst hx;simp[T8_,T6_ h9]at h16;exact fun e=>h16 e.symm
   ·simp at h9;omega
   refine Can.wh ?_;first|trivial|(rw[aj_ (by omega) (by omega)];simp)
 ·refine .exit (.seq (.rg [] ?_))
  refine .ret ⟨.inr rfl,?_⟩
  exact Out.pl (by simp only[Tryz.results196];rfl) (by simp only[ag_,go_sem,seval]<;>(simp at h9;have:¬s∈l:=fun hm=>hI.2 s (by rw[T1_ h9];exact hm) rfl;simp[bj_,this]))
theorem np_ (l:List Str) (s:Str) (hl:l.length<4611686018427387904):ACall En 259 [.sl false (an_ l),.s s] [] [.b (l.contains s)] []:=by
 refine aa_ [] Tryz.func259 Tryz.ntmps259 fun C=>?_
 refine .seq (.rg [] ?_)
 refine .seq (.rg [ab_ (aah_ l s hl)] ?_)
 refine .ret ⟨.inr rfl,?_⟩
 exact Out.pl (by simp only[Tryz.results259];rfl) (by simp only[ag_,go_sem,seval]<;>(by_cases h:s∈l<;>simp[bj_,h]))
end
section
set_option maxRecDepth 100000
set_option maxHeartbeats 4000000
theorem akg_ {p:UInt8→Bool} {s:Str} {k:Nat} (h:k<s.length) (hp:p (s.getD k 0)=false):s.all p=false:=by
 rw[List.all_eq_false];exact⟨_,am_ h,by rw[hp];simp⟩
theorem nc_ (p:UInt8→Bool):∀s:Str,((s.takeWhile p).length==s.length)=s.all p
 |[]=>rfl
 |c::s=>by
  have:=nc_ p s
  simp only[List.takeWhile_cons,List.all_cons]
  cases p c<;>simp_all
theorem anr_ (s:Str):ownW.contains s=jn_ s:=by
 simp only[ownW,jn_,fe_,List.contains_cons,List.contains_nil,Bool.or_false]
 simp only[Bool.or_assoc]
theorem aqc_ (s:Str):(decide ((s.length:Int) ≥ 1)&&decide ((s.length:Int)≤8))=(decide (1≤s.length)&&decide (s.length≤8)):=by
 congr 1<;>exact decide_eq_decide.2 (by omega)
theorem alf_ (s:Str):(decide (1≤(s.length:Int))&&decide ((s.length:Int)≤8))=(decide (1≤s.length)&&decide (s.length≤8)):=by
 congr 1<;>exact decide_eq_decide.2 (by omega)
theorem oo_ (a b:Nat):((a:Int)==(b:Int))=(a==b):=by
 cases h:a==b<;>simp_all<;>omega
theorem acu_ (s:Str) (hs:s.length<4611686018427387904):ACall En 168 [.s s] [] [.b (ev_ s)] []:=by
 refine aa_ [] Tryz.func168 Tryz.ntmps168 fun C=>?_
 refine .seq (.rg [] ?_)
 refine .seq (.seq (.rg [] ?_))
 refine .block (.loopK (fun k:Nat=>⟨[.s s,.no,.b false,.i .i64 k,.no,.no,.no,.no,.no,.no,.no,.no,.no,.no,.no,.no,.no,.no,.no,.no,.no,.no,.no,.no,.no,.no,.no,.no],ak_ [],us []⟩) (fun k:Nat=>k≤s.length∧(s.take k).all ch_=true) (fun k:Nat=>s.length - k) (0) ?_ ?_ (fun k hI=>?_))
 ·simp
 ·refine Can.wh ?_;first|trivial|(simp)
 refine .seq (.seq (.rg [] ?_))
 refine .cB (fun h7=>?_) (fun h7=>?_)
 ·refine .skip (.seq (.block (.seq (.rgo [] ?_ ?_))))
  ·simp at h7;simp;omega
  refine .cB (fun h19=>?_) (fun h19=>?_)
  ·refine .seq (.rg [] ?_)
   refine .ret ⟨.inr rfl,?_⟩
   exact Out.pl (by simp only[Tryz.results168];rfl) (by simp only[ag_,go_sem,seval]<;>(simp at h7;rw[ev_,akg_ h7 (by rw[ch_];simp at h19 ⊢;omega)];rfl))
  ·refine .skip (.rg [] ?_)
   refine Exists.intro (k+1) ⟨?_,?_,?_⟩
   ·simp at h7;exact⟨by omega,by rw[acy_ ch_ s k h7,hI.2,ch_];simp at h19 ⊢;omega⟩
   ·simp at h7;omega
   refine Can.wh ?_;first|trivial|(rw[aj_ (by simp at h7;omega) (by simp at h7;omega)];simp)
 ·refine .exit (.seq (.rg [] ?_))
  refine .ret ⟨.inr rfl,?_⟩
  exact Out.pl (by simp only[Tryz.results168];rfl) (by simp only[ag_,go_sem,seval]<;>(simp at h7;have e:=hI.2;rw[T1_ h7]at e;rw[ev_,e,aqc_];simp))
theorem o0_ (s:Str) (hs:s.length<4611686018427387904):ACall En 102 [.s s] [] [.b (gw_ s)] []:=by
 refine aa_ [] Tryz.func102 Tryz.ntmps102 fun C=>?_
 refine .seq (.rgo [] ?_ ?_)
 ·simp
 refine .seq (.rgo [ab_ (acu_ s hs),ab_ (arq_ s)] ?_ ?_)
 ·simp
 refine .ret ⟨.inr rfl,?_⟩
 exact Out.pl (by simp only[Tryz.results102];rfl) (by simp only[ag_,go_sem,seval]<;>(rfl))
theorem afe_ (s:Str) (hs:s.length<4611686018427387904):ACall En 258 [.i .i64 1,.s s] [] [.b (ev_ s)] []:=by
 refine aa_ [] Tryz.func258 Tryz.ntmps258 fun C=>?_
 refine .seq (.rgo [] ?_ ?_)
 ·simp
 refine .seq (.seq (.rgo [] ?_ ?_))
 ·simp
 refine .block (.seq (.rgo [] ?_ ?_))
 ·simp
 refine .cB (fun h8=>?_) (fun h8=>?_)
 ·refine .seq (.rgo [ab_ (sz_ s.length 1 8),ab_ (apu_ ch_ 250 v0_ s hs)] ?_ ?_)
  ·simp
  refine .ret ⟨.inr rfl,?_⟩
  exact Out.pl (by simp only[Tryz.results258];rfl) (by simp only[ag_,go_sem,seval]<;>(rw[ev_,alf_,oo_,nc_];cases s.all ch_<;>simp))
 ·exact absurd h8 (by simp)
theorem pm_ (s:Str) (hs:s.length<4611686018427387904):ACall En 198 [.s s] [] [.b (gw_ s)] []:=by
 refine aa_ [] Tryz.func198 Tryz.ntmps198 fun C=>?_
 refine .seq (.rg [] ?_)
 refine .seq (.rgo [ab_ (afe_ s hs),ab_ (np_ ownW s (by decide))] ?_ ?_)
 ·simp
 refine .ret ⟨.inr rfl,?_⟩
 exact Out.pl (by simp only[Tryz.results198];rfl) (by simp only[ag_,go_sem,seval]<;>(rw[anr_];rfl))
end
section
set_option maxRecDepth 100000
set_option maxHeartbeats 4000000
theorem ai8_ {xs ys:List E} {k:Nat} (h1:k<xs.length) (h2:k<ys.length):(xs.zip ys)[k]? = some (xs.getD k E0,ys.getD k E0):=by
 rw[T6_ (by simp;omega)]
 simp[T8_,T6_ h1,T6_ h2]
theorem aez_ {xs ys:List E} {k:Nat} (f:E × E→Bool) (h1:k<xs.length) (h2:k<ys.length):((xs.zip ys).take (k+1)).all f=(((xs.zip ys).take k).all f&&f (xs.getD k E0,ys.getD k E0)):=by
 rw[List.take_add_one,ai8_ h1 h2,List.all_append];simp
theorem ajh_ {xs ys:List E} {k:Nat} (f:E × E→Bool) (h1:k<xs.length) (h2:k<ys.length) (h:f (xs.getD k E0,ys.getD k E0)=false):(xs.zip ys).all f=false:=by
 rw[List.all_eq_false];exact⟨_,List.mem_of_getElem? (ai8_ h1 h2),by rw[h];simp⟩
theorem aee_ (p:E→E→Bool) (F:Nat) (xs ys:List E) (hF:∀x∈xs,∀y∈ys,ACall En F [.ag (eC x),.ag (eC y)] [] [.b (p x y)] []) (hx:xs.length<4611686018427387904) (hy:ys.length<4611686018427387904) :
  ACall En 295 [.sl false (eR xs),.sl false (eR ys),.fn (.func F) [] []] [] [.b (decide (xs.length=ys.length)&&(xs.zip ys).all fun q=>p q.1 q.2)] []:=by
 refine aa_ [] Tryz.func295 Tryz.ntmps295 fun C=>?_
 refine .seq (.rg [] ?_)
 refine .seq (.seq (.rg [] ?_))
 refine .cB (fun h14=>?_) (fun h14=>?_)
 ·refine .seq (.rg [] ?_)
  refine .ret ⟨.inr rfl,?_⟩
  exact Out.pl (by simp only[Tryz.results295];rfl) (by simp only[ag_,go_sem,seval]<;>(simp at h14;simp;omega))
 ·refine .skip (.seq (.seq (.rg [] ?_)))
  refine .block (.loopK (fun k:Nat=>⟨[.sl false (eR xs),.sl false (eR ys),.fn (.func F) [] [],.no,.no,.no,.b false,.no,.no,.no,.no,.no,.no,.no,.no,.sl false (eR xs),.i .i64 xs.length,.i .i64 k,.no,.no,.no,.no,.no,.no,.no,.no,.no,.no,.no,.no,.no,.no],ak_ [],us []⟩) (fun k:Nat=>k≤xs.length∧((xs.zip ys).take k).all (fun q=>p q.1 q.2)=true) (fun k:Nat=>xs.length - k) (0) ?_ ?_ (fun k hI=>?_))
  ·simp
  ·refine Can.wh ?_;first|trivial|(simp)
  refine .seq (.rg [] ?_)
  refine .seq (.cB (fun h18=>?_) (fun h18=>?_))
  ·refine .skip (.seq (.block (.seq (.rgo [] ?_ ?_ (h:=by simp only[go_sem,seval,b7_ (show k<xs.length by simpa using h18)];rfl)))))
   ·simp at h18;simp[h18]
   refine .seq (.rgo [] ?_ ?_ (h:=by simp only[go_sem,seval,b7_ (show k<ys.length by simp at h14 h18;omega)];rfl))
   ·simp at h14 h18;simp;omega
   refine .seq (.rg [ab_ (hF (xs.getD k E0) (am_ (by simpa using h18)) (ys.getD k E0) (am_ (by simp at h14 h18;omega)))] ?_)
   refine .cB (fun h30=>?_) (fun h30=>?_)
   ·refine .seq (.rg [] ?_)
    refine .ret ⟨.inr rfl,?_⟩
    exact Out.pl (by simp only[Tryz.results295];rfl) (by simp only[ag_,go_sem,seval]<;>(simp at h14 h18;rw[ajh_ _ h18 (by omega) (by simpa using h30)];simp))
   ·refine .skip (.rg [] ?_)
    refine Exists.intro (k+1) ⟨?_,?_,?_⟩
    ·simp at h14 h18;exact⟨by omega,by rw[aez_ _ h18 (by omega),hI.2];simpa using h30⟩
    ·simp at h18;omega
    refine Can.wh ?_;first|trivial|(rw[aj_ (by simp at h18;omega) (by simp at h18;omega)];simp)
  ·refine .exit (.seq (.rg [] ?_))
   refine .ret ⟨.inr rfl,?_⟩
   exact Out.pl (by simp only[Tryz.results295];rfl) (by simp only[ag_,go_sem,seval]<;>(simp at h14 h18;have:=hI.2;rw[T1_ (by simp;omega)]at this;rw[this];simp;omega))
theorem ko_:∀xs ys:List E,same.sameL xs ys=(decide (xs.length=ys.length)&&(xs.zip ys).all fun q=>same q.1 q.2)
 |[],[]=>rfl
 |[],_::_=>by simp[same.sameL]
 |_::_,[]=>by simp[same.sameL]
 |x::xs,y::ys=>by
  simp only[same.sameL,ko_ xs ys,List.zip_cons_cons,List.all_cons,T7_,Nat.add_right_cancel_iff]
  cases same x y<;>simp
end
section
set_option maxRecDepth 100000
set_option maxHeartbeats 4000000
theorem si_ (x:E):∀y,sm x=true→sm y=true→ACall En 257 [.ag (eC x),.ag (eC y)] [] [.b (same x y)] []:=by
 induction x using E.ind' with
 |h x ih=>
 intro y hx hy
 obtain⟨a1,a2,a3⟩:=fy_ hx
 obtain⟨b1,b2,b3⟩:=fy_ hy
 refine aa_ [] Tryz.func257 Tryz.ntmps257 fun C=>?_
 refine .seq (.rg [] ?_)
 refine .seq (.rgo [ab_ (aee_ same 257 x.kids y.kids (fun u hu v hv=>ih u hu v (ck_ a3 u hu) (ck_ b3 v hv)) a2 b2)] ?_ ?_)
 ·simp
 refine .ret ⟨.inr rfl,?_⟩
 exact Out.pl (by simp only[Tryz.results257];rfl) (by simp only[ag_,go_sem,seval]<;>(rw[s8_,ko_]))
theorem abr_ (x:E):∀y,sm x=true→sm y=true→ACall En 167 [.ag (eC x),.ag (eC y)] [] [.b (same x y)] []:=by
 induction x using E.ind' with
 |h x ih=>
 intro y hx hy
 obtain⟨a1,a2,a3⟩:=fy_ hx
 obtain⟨b1,b2,b3⟩:=fy_ hy
 refine aa_ [] Tryz.func167 Tryz.ntmps167 fun C=>?_
 refine .seq (.rg [] ?_)
 refine .seq (.seq (.rgo [] ?_ ?_))
 ·simp
 refine .cB (fun h33=>?_) (fun h33=>?_)
 ·refine .seq (.rg [] ?_)
  refine .ret ⟨.inr rfl,?_⟩
  exact Out.pl (by simp only[Tryz.results167];rfl) (by simp only[ag_,go_sem,seval]<;>(simp at h33;rw[s8_,ko_];rcases h33 with((h33|h33)|h33)|h33<;>simp[h33]<;>omega))
 ·refine .skip (.seq (.seq (.rg [] ?_)))
  refine .block (.loopK (fun k:Nat=>⟨[.no,.no,.pt 12 4 0 0,.pt 13 4 0 0,.b false,.i .i64 k,.no,.no,.no,.no,.no,.no,.no,.no,.no,.no,.no,.no,.no,.no,.no,.no,.no,.no,.no,.no,.no,.no,.no,.no,.no,.no,.no,.no,.no,.no,.no,.no,.no,.no,.no,.no,.no,.no,.no,.no,.no,.no,.no,.no,.no,.no,.no],ak_ [(12,⟨56,4,[eC x]⟩),(13,⟨56,4,[eC y]⟩)],us [12,13]⟩) (fun k:Nat=>k≤x.kids.length∧((x.kids.zip y.kids).take k).all (fun q=>same q.1 q.2)=true) (fun k:Nat=>x.kids.length - k) (0) ?_ ?_ (fun k hI=>?_))
  ·simp
  ·refine Can.wh ?_;first|trivial|(simp)
  refine .seq (.seq (.rg [] ?_))
  refine .cB (fun h38=>?_) (fun h38=>?_)
  ·refine .skip (.seq (.block (.seq (.rgDo [ab_ (ih (x.kids.getD k E0) (am_ (by simpa using h38)) (y.kids.getD k E0) (ck_ a3 _ (am_ (by simpa using h38))) (ck_ b3 _ (am_ (by simp at h33 h38;omega))))] ?_ ?_ (h:=by simp only[go_sem,seval,b7_ (show k<x.kids.length by simpa using h38),b7_ (show k<y.kids.length by simp at h33 h38;omega)];rfl)))))
   ·simp at h33 h38;simp;omega
   refine .cB (fun h52=>?_) (fun h52=>?_)
   ·refine .seq (.rg [] ?_)
    refine .ret ⟨.inr rfl,?_⟩
    exact Out.pl (by simp only[Tryz.results167];rfl) (by simp only[ag_,go_sem,seval]<;>(simp at h33 h38;rw[s8_,ko_,ajh_ _ h38 (by omega) (by simpa using h52)];simp))
   ·refine .skip (.rg [] ?_)
    refine Exists.intro (k+1) ⟨?_,?_,?_⟩
    ·simp at h33 h38;exact⟨by omega,by rw[aez_ _ h38 (by omega),hI.2];simpa using h52⟩
    ·simp at h38;omega
    refine Can.wh ?_;first|trivial|(rw[aj_ (by simp at h38;omega) (by simp at h38;omega)];simp)
  ·refine .exit (.seq (.rg [] ?_))
   refine .ret ⟨.inr rfl,?_⟩
   exact Out.pl (by simp only[Tryz.results167];rfl) (by simp only[ag_,go_sem,seval]<;>(simp at h33 h38;rw[s8_,ko_];have e:=hI.2;rw[T1_ (by simp;omega)]at e;rw[e];simp[h33];omega))
end
section
set_option maxRecDepth 100000
set_option maxHeartbeats 4000000
theorem adm_ (e:E):∀d:Int, -4611686018427387904<d→d<4611686018427387904→sm e=true→ACall En 170 [.ag (eC e),.i .i64 d] [] [.b (form e d)] []:=by
 induction e using E.ind' with
 |h e ih=>
 intro d hd1 hd2 hs
 obtain⟨a1,a2,a3⟩:=fy_ hs
 refine aa_ [] Tryz.func170 Tryz.ntmps170 fun C=>?_
 refine .seq (.rg [] ?_)
 refine .seq (.seq (.rg [] ?_))
 refine .cB (fun h9=>?_) (fun h9=>?_)
 ·refine .seq (.rg [] ?_)
  refine .ret ⟨.inr rfl,?_⟩
  exact Out.pl (by simp only[Tryz.results170];rfl) (by simp only[ag_,go_sem,seval]<;>(rw[ob_];simp at h9;simp;omega))
 ·refine .skip (.seq (.rg [] ?_))
  refine .seq (.rg [] ?_)
  refine .seqJ (fun q:Bool × Nat=>⟨[.no,.i .i64 d,.pt 12 4 0 0,.no,.b false,.b q.1,.i .i64 q.2,.no,.no,.no,.no,.no,.no,.no,.no,.no,.no,.no,.no,.no,.no,.no,.no,.no,.no,.no,.no,.no,.no,.no,.no,.no,.no,.no,.no,.no,.no,.no,.no,.no,.no,.no,.no,.no,.no,.no,.no,.no,.no,.no,.no,.no,.no,.no,.no,.no,.no,.no,.no,.no,.no,.no,.no,.no,.no,.no,.no,.no,.no,.no,.no,.no,.no,.no,.no,.no,.no,.no,.no,.no],ak_ [(12,⟨56,4,[eC e]⟩)],us [12]⟩) (fun q:Bool × Nat=>(q.1&&(e.kids.length==q.2))=shape e.kind e.n e.s e.kids.length) ?_ (fun q hJ=>?_)
  ·refine .seq (.rg [] ?_)
   refine .block (.seq (.rg [] ?_))
   refine .cB (fun h12=>?_) (fun h12=>?_)
   ·refine .rgo [] ?_ ?_
    ·simp
    refine Exists.intro ((decide (e.n ≥ 0)&&decide (e.n≤1000000)&&e.s==[],0)) ⟨?_,?_⟩
    ·simp_all[shape]
    refine Can.wh ?_;first|trivial|(simp)
   ·refine .seq (.rg [] ?_)
    refine .cB (fun h27=>?_) (fun h27=>?_)
    ·refine .rgo [ab_ (o0_ e.s a1)] ?_ ?_
     ·simp
     refine Exists.intro ((e.n==0&&gw_ e.s,0)) ⟨?_,?_⟩
     ·simp_all[shape]
     refine Can.wh ?_;first|trivial|(simp)
    ·refine .seq (.rg [] ?_)
     refine .cB (fun h37=>?_) (fun h37=>?_)
     ·refine .seq (.rgo [ab_ (ark_ e.s)] ?_ ?_)
      ·simp
      refine .rg [] ?_
      refine Exists.intro ((e.n==0&&fm_ e.s,2)) ⟨?_,?_⟩
      ·simp_all[shape]
      refine Can.wh ?_;first|trivial|(simp)
     ·refine .seq (.rg [] ?_)
      refine .cB (fun h47=>?_) (fun h47=>?_)
      ·refine .seq (.rgo [ab_ (o7_ e.s)] ?_ ?_)
       ·simp
       refine .rg [] ?_
       refine Exists.intro ((e.n==0&&fe_ e.s,1)) ⟨?_,?_⟩
       ·simp_all[shape]
       refine Can.wh ?_;first|trivial|(simp)
      ·refine .skip ?_
       refine Exists.intro ((false,0)) ⟨?_,?_⟩
       ·simp_all[shape]
       refine Can.wh ?_;first|trivial|(simp)
  refine .seq (.seq (.rgo [] ?_ ?_))
  ·simp
  refine .cB (fun h65=>?_) (fun h65=>?_)
  ·refine .seq (.rg [] ?_)
   refine .ret ⟨.inr rfl,?_⟩
   exact Out.pl (by simp only[Tryz.results170];rfl) (by simp only[ag_,go_sem,seval]<;>(rw[ob_,←hJ];simp at h65;cases hq:q.1<;>simp_all;intro h;rw[←hJ]at h;simp at h;omega))
  ·refine .skip (.seq (.seq (.rg [] ?_)))
   refine .block (.loopK (fun k:Nat=>⟨[.no,.i .i64 d,.pt 12 4 0 0,.no,.b false,.no,.i .i64 e.kids.length,.i .i64 k,.no,.no,.no,.no,.no,.no,.no,.no,.no,.no,.no,.no,.no,.no,.no,.no,.no,.no,.no,.no,.no,.no,.no,.no,.no,.no,.no,.no,.no,.no,.no,.no,.no,.no,.no,.no,.no,.no,.no,.no,.no,.no,.no,.no,.no,.no,.no,.no,.no,.no,.no,.no,.no,.no,.no,.no,.no,.no,.no,.no,.no,.no,.no,.no,.no,.no,.no,.no,.no,.no,.no,.no],ak_ [(12,⟨56,4,[eC e]⟩)],us [12]⟩) (fun k:Nat=>k≤e.kids.length∧c7_ e.kids (d - 1)=c7_ (e.kids.drop k) (d - 1)) (fun k:Nat=>e.kids.length - k) (0) ?_ ?_ (fun k hI=>?_))
   ·simp
   ·refine Can.wh ?_;first|trivial|(simp at h65;(try simp);omega)
   refine .seq (.seq (.rg [] ?_))
   refine .cB (fun h68=>?_) (fun h68=>?_)
   ·refine .skip (.seq (.block (.seq (.rgo [ab_ (ih (e.kids.getD k E0) (am_ (by simpa using h68)) (d - 1) (by simp at h9;omega) (by omega) (ck_ a3 _ (am_ (by simpa using h68))))] ?_ ?_ (h:=by simp only[go_sem,seval,b7_ (show k<e.kids.length by simpa using h68),aj_ (show -9223372036854775808≤d - 1 by omega) (by omega)];rfl)))))
    ·simp at h68;simp;omega
    refine .cB (fun h79=>?_) (fun h79=>?_)
    ·refine .seq (.rg [] ?_)
     refine .ret ⟨.inr rfl,?_⟩
     exact Out.pl (by simp only[Tryz.results170];rfl) (by simp only[ag_,go_sem,seval]<;>(simp at h68;rw[ob_,hI.2,vs_ h68,←ii_ h68];simp_all))
    ·refine .skip (.rg [] ?_)
     refine Exists.intro (k+1) ⟨?_,?_,?_⟩
     ·simp at h68;refine⟨by omega,?_⟩;rw[hI.2,vs_ h68,←ii_ h68];simp_all
     ·simp at h68;omega
     refine Can.wh ?_;first|trivial|(rw[aj_ (by simp at h68;omega) (by simp at h68;omega)];simp)
   ·refine .exit (.seq (.rg [] ?_))
    refine .ret ⟨.inr rfl,?_⟩
    exact Out.pl (by simp only[Tryz.results170];rfl) (by simp only[ag_,go_sem,seval]<;>(simp at h68;rw[ob_,←hJ,hI.2,amh_ h68];simp at h9;simp_all;omega))
theorem auw_ (e:E) (d:Int):many e d=1+if 0<d then co_ e.kids (d - 1)else 0:=by cases e;simp only[many,E.kids]
theorem aoz_ {e:E} {d:Int} (h:form e d=true):c7_ e.kids (d - 1)=true∧1≤d:=by
 rw[ob_]at h;simp at h;exact⟨h.2,h.1.1⟩
theorem acb_ (e:E):∀d:Nat,d≤5→form e d=true→sm e=true→ACall En 171 [.ag (eC e),.i .i64 d] [] [.i .i64 (many e d)] []:=by
 induction e using E.ind' with
 |h e ih=>
 intro d hd hf hs
 obtain⟨a1,a2,a3⟩:=fy_ hs
 obtain⟨f1,f2⟩:=aoz_ hf
 have hm:=tc_ e d hf
 have hp:(2:Int) ^ d≤32:=by
  have:d=0∨d=1∨d=2∨d=3∨d=4∨d=5:=by omega
  rcases this with rfl|rfl|rfl|rfl|rfl|rfl<;>decide
 have hb:many e d≤31:=by omega
 clear hp
 have hd1:((d - 1:Nat):Int)=d - 1:=by omega
 have hdr:∀k,0≤co_ (e.kids.drop k) (d - 1):=fun k=>by
  have:=(pi_ (e.kids.drop k) (d - 1) (by rw[hd1];exact af9_ k f1)).1
  rwa [hd1]at this
 have hmy:∀x∈e.kids,1≤many x (d - 1):=fun x hx=>by
  have:=(tc_ x (d - 1) (by rw[hd1];exact qt_ f1 x hx)).1
  rwa [hd1]at this
 refine aa_ [] Tryz.func171 Tryz.ntmps171 fun C=>?_
 refine .seq (.rg [] ?_)
 refine .seq (.rg [] ?_)
 refine .seq (.seq (.rg [] ?_))
 refine .block (.loopK (fun k:Nat × Int=>⟨[.no,.i .i64 d,.pt 12 4 0 0,.no,.i .i64 0,.i .i64 k.2,.i .i64 k.1,.no,.no,.no,.no,.no,.no,.no,.no,.no,.no,.no,.no,.no,.no,.no,.no,.no,.no,.no,.no,.no,.no],ak_ [(12,⟨56,4,[eC e]⟩)],us [12]⟩) (fun k:Nat × Int=>k.1≤e.kids.length∧k.2+co_ (e.kids.drop k.1) (d - 1)=many e d∧1≤k.2) (fun k:Nat × Int=>e.kids.length - k.1) ((0,1)) ?_ ?_ (fun k hI=>?_))
 ·simp[auw_];omega
 ·refine Can.wh ?_;first|trivial|(simp)
 refine .seq (.seq (.rgo [] ?_ ?_))
 ·simp
 refine .cB (fun h15=>?_) (fun h15=>?_)
 ·refine .skip (.seq (.block (.rgo [ab_ (hd1 ▸ ih (e.kids.getD k.1 E0) (am_ (by simp at h15;omega)) (d - 1) (by omega) (by rw[hd1];exact qt_ f1 _ (am_ (by simp at h15;omega))) (ck_ a3 _ (am_ (by simp at h15;omega))))] ?_ ?_ (h:=by simp only[go_sem,seval,b7_ (show k.1<e.kids.length by simp at h15;omega),aj_ (show -9223372036854775808≤(d:Int) - 1 by omega) (by omega)];rfl))))
  ·simp at h15;simp;omega
  refine .rg [] ?_
  refine Exists.intro ((k.1+1,k.2+many (e.kids.getD k.1 E0) (d - 1))) ⟨?_,?_,?_⟩
  ·simp at h15;have e1:=vq_ h15.1 ((d:Int) - 1);rw[←ii_ h15.1]at e1;have b2:=hmy _ (am_ h15.1 (d:=E0));dsimp only;omega
  ·simp at h15;simp;omega
  refine Can.wh ?_;first|trivial|(simp at h15;have e1:=vq_ h15.1 ((d:Int) - 1);rw[←ii_ h15.1]at e1;have b1:=hdr (k.1+1);have b2:=hmy _ (am_ h15.1 (d:=E0));exact⟨aj_ (by omega) (by omega),by rw[aj_ (by omega) (by omega)];omega⟩)
 ·refine .exit (.seq (.rg [] ?_))
  refine .ret ⟨.inr rfl,?_⟩
  exact Out.pl (by simp only[Tryz.results171];rfl) (by simp only[ag_,go_sem,seval]<;>(simp at h15;have:e.kids.length≤k.1:=(by omega);have e1:=ama_ this ((d:Int) - 1);simp;omega))
def E1:E:=.mk 1 0 [] []
theorem in_ (e:E) (hs:sm e=true):ACall En 104 [.ag (eC e)] [] [.b (eok e)] []:=by
 cases hf:form e 5 with
 |true=>
 refine aa_ [] Tryz.func104 Tryz.ntmps104 fun C=>?_
 refine .seq (.rg [] ?_)
 refine .seq (.rg [ab_ (adm_ e 5 (by decide) (by decide) hs),ab_ (acb_ e 5 (by decide) hf hs)] ?_)
 refine .ret ⟨.inr rfl,?_⟩
 exact Out.pl (by simp only[Tryz.results104];rfl) (by simp only[ag_,go_sem,seval]<;>(simp[eok,hf]))
 |false=>
 refine aa_ [] Tryz.func104 Tryz.ntmps104 fun C=>?_
 refine .seq (.rg [] ?_)
 refine .seq (.rg [ab_ (adm_ e 5 (by decide) (by decide) hs),ab_ (acb_ E1 1 (by decide) rfl rfl)] ?_ (h:=by simp only[go_sem,seval,hf];rfl))
 refine .ret ⟨.inr rfl,?_⟩
 exact Out.pl (by simp only[Tryz.results104];rfl) (by simp only[ag_,go_sem,seval]<;>(simp[eok,hf]))
end
section
set_option maxRecDepth 100000
set_option maxHeartbeats 4000000
def iB (p:Int):Blk:=⟨3,1,[[.i .i64 p]]⟩
def ai5_ (e:E):Prop:=∀d p:Int,0≤d→d≤6→0≤p→p≤12→ACall En 260 [.ag (eC e),.i .i64 d,.pt 0 1 0 0] [⟨3,1,[[.i .i64 p]]⟩] [.b (wlk e d p).1] [⟨3,1,[[.i .i64 (wlk e d p).2]]⟩]
theorem atq_ (e:E) (h:ai5_ e) (d p:Int) (h1:0≤d) (h2:d≤5) (h3:0≤p) (h4:p≤12) :
  ACall En 297 [.ag (eC e),.pt 0 1 0 0,.pt 1 1 0 0] [⟨3,1,[[.i .i64 d]]⟩,⟨201,1,[[.pt 2 1 0 0]]⟩,⟨3,1,[[.i .i64 p]]⟩]
   [.b (!(wlk e (d+1) p).1)] [⟨3,1,[[.i .i64 d]]⟩,⟨201,1,[[.pt 2 1 0 0]]⟩,⟨3,1,[[.i .i64 (wlk e (d+1) p).2]]⟩]:=by
 refine aa_ [0,1,2] Tryz.func297 Tryz.ntmps297 fun C=>?_
 refine .seq (.rg [] ?_)
 refine .seq (.rgo [bf_ [2] [] (h (d+1) p (by omega) (by omega) h3 h4)] ?_ ?_ (h:=by simp only[go_sem,seval,aj_ (show -9223372036854775808≤d+1 by omega) (by omega),at_,bm_];rfl))
 ·simp
 refine .ret ⟨.inr rfl,?_⟩
 exact Out.mm (by simp only[Tryz.results297];rfl) (by simp only[ag_,rns,rn,go_sem,seval]<;>(simp_all)) (by simp only[at_,go_sem,seval]<;>(simp))
def wix:List E→Int→Int→Int→Int
 |[],_,_,_=> -1
 |e::r,d,p,k=>if (wlk e d p).1 then wix r d (wlk e d p).2 (k+1)else k
theorem adl_ {kids:List E} {k:Nat} (h:k<kids.length) (d p j:Int):wix (kids.drop k) d p j=if (wlk kids[k] d p).1 then wix (kids.drop (k+1)) d (wlk kids[k] d p).2 (j+1)else j:=by
 rw[List.drop_eq_getElem_cons h];simp only[wix]
theorem ai4_:∀(l:List E) (d p j:Int),0≤j→decide (wix l d p j ≥ 0)=!(gd_ l d p).1
 |[],d,p,j,h=>by simp[wix,gd_]
 |e::r,d,p,j,h=>by
  have ih:=ai4_ r d (wlk e d p).2 (j+1) (by omega)
  have e1:wix (e::r) d p j=bif (wlk e d p).1 then wix r d (wlk e d p).2 (j+1)else j:=by simp only[wix];cases (wlk e d p).1<;>rfl
  have e2:gd_ (e::r) d p=bif (wlk e d p).1 then gd_ r d (wlk e d p).2 else(false,(wlk e d p).2):=by simp only[gd_];cases (wlk e d p).1<;>rfl
  rw[e2]
  simp only[e1]
  cases hc:(wlk e d p).1
  ·simp[h]
  ·exact ih
theorem anh_ (kids:List E) (ih:∀e∈kids,ai5_ e) (d p:Int) (h1:0≤d) (h2:d≤5) (h3:0≤p) (h4:p≤12) (hl:kids.length<4611686018427387904) :
  ACall En 313 [.sl false (eR kids),.fn (.func 297) [] [.pt 0 1 0 0,.pt 1 1 0 0]] [⟨3,1,[[.i .i64 d]]⟩,⟨201,1,[[.pt 2 1 0 0]]⟩,⟨3,1,[[.i .i64 p]]⟩]
   [.i .i64 (wix kids (d+1) p 0)] [⟨3,1,[[.i .i64 d]]⟩,⟨201,1,[[.pt 2 1 0 0]]⟩,⟨3,1,[[.i .i64 (gd_ kids (d+1) p).2]]⟩]:=by
 refine aa_ [0,1,2] Tryz.func313 Tryz.ntmps313 fun C=>?_
 refine .seq (.rg [] ?_)
 refine .seq (.seq (.rg [] ?_))
 refine .block (.loopK (fun k:Nat × Int=>⟨[.sl false (eR kids),.fn (.func 297) [] [.pt 0 1 0 0,.pt 1 1 0 0],.no,.no,.i .i64 0,.no,.no,.i .i64 kids.length,.i .i64 k.1,.no,.no,.no,.no,.no,.no,.no,.no,.no,.no],ak_ [(0,⟨3,1,[[.i .i64 d]]⟩),(1,⟨201,1,[[.pt 2 1 0 0]]⟩),(2,⟨3,1,[[.i .i64 k.2]]⟩)],us []⟩) (fun k:Nat × Int=>k.1≤kids.length∧0≤k.2∧k.2≤12∧gd_ kids (d+1) p=gd_ (kids.drop k.1) (d+1) k.2∧wix kids (d+1) p 0=wix (kids.drop k.1) (d+1) k.2 k.1) (fun k:Nat × Int=>kids.length - k.1) ((0,p)) ?_ ?_ (fun k hI=>?_))
 ·simp;omega
 ·refine Can.wh ?_;first|trivial|(simp)
 refine .seq (.rg [] ?_)
 refine .seq (.cB (fun h9=>?_) (fun h9=>?_))
 ·refine .skip (.seq (.block (.seq (.rg [] ?_))))
  refine .seq (.rgo [bf_ [0,1,2] [] (atq_ (kids.getD k.1 E0) (ih _ (am_ (by simpa using h9))) d k.2 h1 h2 (by omega) (by omega))] ?_ ?_ (h:=by simp only[go_sem,seval,at_,bm_,b7_ (show k.1<kids.length by simpa using h9)];rfl))
  ·simp at h9;simp;omega
  refine .cB (fun h16=>?_) (fun h16=>?_)
  ·refine .seq (.rg [] ?_)
   refine .ret ⟨.inr rfl,?_⟩
   exact Out.mm (by simp only[Tryz.results313];rfl) (by simp only[ag_,rns,rn,go_sem,seval]<;>(simp at h9;have hw:(wlk (kids.getD k.1 E0) (d+1) k.2).1=false:=(by simpa using h16);rw[hI.2.2.2.2,adl_ h9,←ii_ h9,hw];simp)) (by simp only[at_,go_sem,seval]<;>(simp at h9;have hw:(wlk (kids.getD k.1 E0) (d+1) k.2).1=false:=(by simpa using h16);rw[hI.2.2.2.1,xk_ h9,←ii_ h9,hw];simp))
  ·refine .skip (.rg [] ?_)
   refine Exists.intro ((k.1+1,(wlk (kids.getD k.1 E0) (d+1) k.2).2)) ⟨?_,?_,?_⟩
   ·simp at h9;obtain⟨g0,g1,g2,g3,g4⟩:=hI;rw[xk_ h9,←ii_ h9]at g3;rw[adl_ h9,←ii_ h9]at g4;have hw:(wlk (kids.getD k.1 E0) (d+1) k.2).1=true:=(by simpa using h16);rw[hw]at g3 g4;have:=ao2_ _ _ _ hw;exact⟨by dsimp only;omega,by dsimp only;omega,by dsimp only;omega,by simpa using g3,by simpa using g4⟩
   ·simp at h9;simp;omega
   refine Can.wh ?_;first|trivial|(rw[aj_ (by simp at h9;omega) (by simp at h9;omega)];simp)
 ·refine .exit (.seq (.rg [] ?_))
  refine .ret ⟨.inr rfl,?_⟩
  exact Out.mm (by simp only[Tryz.results313];rfl) (by simp only[ag_,rns,rn,go_sem,seval]<;>(simp at h9;rw[hI.2.2.2.2,List.drop_of_length_le h9];simp[wix])) (by simp only[at_,go_sem,seval]<;>(simp at h9;rw[hI.2.2.2.1,aov_ h9]))
theorem sn_ (kids:List E) (ih:∀e∈kids,ai5_ e) (d p:Int) (h1:0≤d) (h2:d≤5) (h3:0≤p) (h4:p≤12) (hl:kids.length<4611686018427387904) :
  ACall En 296 [.sl false (eR kids),.fn (.func 297) [] [.pt 0 1 0 0,.pt 1 1 0 0]] [⟨3,1,[[.i .i64 d]]⟩,⟨201,1,[[.pt 2 1 0 0]]⟩,⟨3,1,[[.i .i64 p]]⟩]
   [.b (!(gd_ kids (d+1) p).1)] [⟨3,1,[[.i .i64 d]]⟩,⟨201,1,[[.pt 2 1 0 0]]⟩,⟨3,1,[[.i .i64 (gd_ kids (d+1) p).2]]⟩]:=by
 refine aa_ [0,1,2] Tryz.func296 Tryz.ntmps296 fun C=>?_
 refine .seq (.rg [] ?_)
 refine .seq (.rgo [bf_ [0,1,2] [] (anh_ kids ih d p h1 h2 h3 h4 hl)] ?_ ?_ (h:=by simp only[go_sem,seval,at_,bm_];rfl))
 ·simp
 refine .ret ⟨.inr rfl,?_⟩
 exact Out.mm (by simp only[Tryz.results296];rfl) (by simp only[ag_,rns,rn,go_sem,seval]<;>(rw[ai4_ _ _ _ _ (by decide)])) (by simp only[at_,go_sem,seval]<;>(simp))
theorem rs_ (e:E) (d p:Int):wlk e d p=if 5<d∨12<p+1 then(false,p+1)else if shape e.kind e.n e.s e.kids.length then gd_ e.kids (d+1) (p+1)else(false,p+1):=by cases e;simp only[wlk,E.kind,E.n,E.s,E.kids];rfl
theorem apt_ (s:Str):decide (ap_ s > 0)=fm_ s:=xh_ s
theorem vf_ (n:Nat):((n:Int)==0)=(n==0):=oo_ n 0
theorem wj_ (n:Nat):((n:Int)==1)=(n==1):=oo_ n 1
theorem v8_ (n:Nat):((n:Int)==2)=(n==2):=oo_ n 2
theorem aw0_ (e:E) (hs:sm e=true):ai5_ e:=by
 induction e using E.ind' with
 |h e ih=>
 intro d p hd hd6 hp hp12
 obtain⟨a1,a2,a3⟩:=fy_ hs
 refine aa_ [0] Tryz.func260 Tryz.ntmps260 fun C=>?_
 refine .seq (.rgo [] ?_ ?_)
 ·simp
 refine .seq (.rgo [] ?_ ?_ (h:=by simp only[go_sem,seval,aj_ (show -9223372036854775808≤p+1 by omega) (by omega)];rfl))
 ·simp
 refine .seq (.seq (.rgo [] ?_ ?_))
 ·simp
 refine .cB (fun h20=>?_) (fun h20=>?_)
 ·refine .seq (.rgo [] ?_ ?_)
  ·simp
  refine .ret ⟨.inr rfl,?_⟩
  exact Out.mm (by simp only[Tryz.results260];rfl) (by simp only[ag_,rns,rn,go_sem,seval]<;>(have g:5<d∨12<p+1:=(by simp at h20;omega);rw[rs_,if_pos g])) (by simp only[at_,go_sem,seval]<;>(have g:5<d∨12<p+1:=(by simp at h20;omega);rw[rs_,if_pos g]))
 ·refine .skip (.seq (.rgo [] ?_ ?_))
  ·simp
  refine .seqJ (fun q:Bool=>⟨[.no,.no,.no,.pt 13 4 0 0,.pt 14 1 0 0,.pt 15 1 0 0,.b false,.b q,.no,.no,.no,.no,.no,.no,.no,.no,.no,.no,.no,.no,.no,.no,.no,.no,.no,.no,.no,.no,.no,.no,.no,.no,.no,.no,.no,.no,.no,.no,.no,.no,.no,.no,.no,.no,.no,.no,.no,.no,.no,.no,.no,.no,.no,.no,.no,.no,.no,.no,.no,.no,.no,.no,.no,.no,.no,.no,.no,.no,.no,.no,.no,.no,.no,.no,.no,.no,.no,.no,.no,.no,.no,.no,.no,.no,.no,.no,.no,.no,.no,.no,.no,.no,.no,.no,.no,.no],ak_ [(0,⟨3,1,[[.i .i64 (p+1)]]⟩),(13,⟨56,4,[eC e]⟩),(14,⟨3,1,[[.i .i64 d]]⟩),(15,⟨201,1,[[.pt 0 1 0 0]]⟩)],us [13,14,15]⟩) (fun q:Bool=>q=shape e.kind e.n e.s e.kids.length) ?_ (fun q hJ=>?_)
  ·refine .seq (.rgo [] ?_ ?_)
   ·simp
   refine .block (.seq (.rgo [] ?_ ?_))
   ·simp
   refine .cB (fun h23=>?_) (fun h23=>?_)
   ·refine .rgo [ab_ (sz_ e.n 0 1000000)] ?_ ?_
    ·simp
    refine Exists.intro (decide (0≤e.n)&&decide (e.n≤1000000)&&e.s==[]&&(e.kids.length:Int)==0) ⟨?_,?_⟩
    ·(first|rw[vf_]|rw[wj_]|rw[v8_]|skip);simp_all[shape]
    exact Can.wl
   ·refine .seq (.rgo [] ?_ ?_)
    ·simp
    refine .cB (fun h39=>?_) (fun h39=>?_)
    ·refine .rgo [ab_ (pm_ e.s a1)] ?_ ?_
     ·simp
     refine Exists.intro (e.n==0&&gw_ e.s&&(e.kids.length:Int)==0) ⟨?_,?_⟩
     ·(first|rw[vf_]|rw[wj_]|rw[v8_]|skip);simp_all[shape]
     exact Can.wl
    ·refine .seq (.rgo [] ?_ ?_)
     ·simp
     refine .cB (fun h55=>?_) (fun h55=>?_)
     ·refine .rgo [ab_ (li_ e.s)] ?_ ?_ (h:=by simp only[go_sem,seval,apt_];rfl)
      ·simp
      refine Exists.intro (e.n==0&&fm_ e.s&&(e.kids.length:Int)==2) ⟨?_,?_⟩
      ·(first|rw[vf_]|rw[wj_]|rw[v8_]|skip);simp_all[shape]
      exact Can.wl
     ·refine .seq (.rgo [] ?_ ?_)
      ·simp
      refine .cB (fun h72=>?_) (fun h72=>?_)
      ·refine .rgo [ab_ (ack_ e.s)] ?_ ?_
       ·simp
       refine Exists.intro (e.n==0&&fe_ e.s&&(e.kids.length:Int)==1) ⟨?_,?_⟩
       ·(first|rw[vf_]|rw[wj_]|rw[v8_]|skip);simp_all[shape]
       exact Can.wl
      ·refine .skip ?_
       refine Exists.intro (false) ⟨?_,?_⟩
       ·(first|rw[vf_]|rw[wj_]|rw[v8_]|skip);simp_all[shape]
       exact Can.wl
  cases q
  ·refine .seq (.rgo [bf_ [14,15,0] [] (sn_ e.kids (fun x hx=>ih x hx (ck_ a3 x hx)) d (p+1) hd (by simp at h20;omega) (by omega) (by simp at h20;omega) a2)] ?_ ?_ (h:=by simp only[go_sem,seval,at_,bm_];rfl))
   ·simp
   refine .ret ⟨.inr rfl,?_⟩
   exact Out.mm (by simp only[Tryz.results260];rfl) (by simp only[ag_,rns,rn,go_sem,seval]<;>(have g:¬(5<d∨12<p+1):=(by simp at h20;omega);rw[rs_,if_neg g,←hJ];rfl)) (by simp only[at_,go_sem,seval]<;>(have g:¬(5<d∨12<p+1):=(by simp at h20;omega);rw[rs_,if_neg g,←hJ];rfl))
  ·refine .seq (.rgo [bf_ [14,15,0] [] (sn_ e.kids (fun x hx=>ih x hx (ck_ a3 x hx)) d (p+1) hd (by simp at h20;omega) (by omega) (by simp at h20;omega) a2)] ?_ ?_ (h:=by simp only[go_sem,seval,at_,bm_];rfl))
   ·simp
   refine .ret ⟨.inr rfl,?_⟩
   exact Out.mm (by simp only[Tryz.results260];rfl) (by simp only[ag_,rns,rn,go_sem,seval]<;>(have g:¬(5<d∨12<p+1):=(by simp at h20;omega);rw[rs_,if_neg g,←hJ];simp)) (by simp only[at_,go_sem,seval]<;>(have g:¬(5<d∨12<p+1):=(by simp at h20;omega);rw[rs_,if_neg g,←hJ];rfl))
theorem g9_ (e:E) (hs:sm e=true):ACall En 200 [.ag (eC e)] [] [.b (eok e)] []:=by
 refine aa_ [] Tryz.func200 Tryz.ntmps200 fun C=>?_
 refine .seq (.rg [] ?_)
 refine .seq (.rg [] ?_)
 refine .seq (.rg [bf_ [13] [] (aw0_ e hs 1 0 (by decide) (by decide) (by decide) (by decide))] ?_ (h:=by simp only[go_sem,seval,at_,bm_];rfl))
 refine .ret ⟨.inr rfl,?_⟩
 exact Out.pl (by simp only[Tryz.results200];rfl) (by simp only[ag_,go_sem,seval]<;>(rw[auq_]))
end
section
set_option maxRecDepth 100000
set_option maxHeartbeats 4000000
theorem ahb_ (a b:List E):eR (a++b)=eR a++eR b:=by simp[q0_]
end
end Go.Proofs.YthjccajoadjicaaGreatDoor
