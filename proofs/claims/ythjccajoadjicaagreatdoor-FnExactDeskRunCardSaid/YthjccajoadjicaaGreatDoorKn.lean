/- Texts and their lines: the reference's TextOk, TextLines. Conditions: none. -/
import Derived.Test.YthjccajoadjicaaGreatDoorKm
import Derived.Test.YthjccajoadjicaaGreatDoorKh
import Derived.Test.YthjccajoadjicaaGreatDoorKk
import Derived.Test.YthjccajoadjicaaGreatDoorKl
import Derived.Test.YthjccajoadjicaaGreatDoorKi
import Derived.Test.YthjccajoadjicaaGreatDoorKf
import Derived.Test.YthjccajoadjicaaGreatDoorKj
set_option linter.unusedVariables false
set_option linter.unusedSimpArgs false
namespace Go.Proofs.YthjccajoadjicaaGreatDoor
section
set_option maxRecDepth 100000
set_option maxHeartbeats 4000000
def CutI (s:Str) (i:Nat) (p:Nat × List Str):Prop:=
 p.1≤i∧p.2.length≤i∧(i≤s.length→p.2++spl (s.drop p.1)=spl s∧(10:UInt8) ∉ (s.drop p.1).take (i - p.1))∧(s.length<i→p.2=spl s)
theorem aoh_ (s:Str):CutI s 0 (0,[]):=⟨Nat.le_refl _,Nat.le_refl _,fun _=>⟨rfl,by simp⟩,fun h=>absurd h (by omega)⟩
theorem anw_ {s:Str} {a i:Nat} (ha:a≤i) (hi:i<s.length):s.drop a=(s.drop a).take (i - a)++s.getD i 0::s.drop (i+1):=by
 conv=>lhs;rw[←List.take_append_drop (i - a) (s.drop a)]
 rw[List.drop_drop,show a+(i - a)=i by omega,List.drop_eq_getElem_cons hi,T8_,T6_ hi];rfl
theorem awb_ {s:Str} {i:Nat} {p:Nat × List Str} (h:CutI s i p) (hi:i≤s.length) (hc:i=s.length∨s.getD i 0=10):CutI s (i+1) (i+1,p.2++[(s.drop p.1).take (i - p.1)]):=by
 obtain⟨h1,h2,h3, -⟩:=h
 obtain⟨h3,h4⟩:=h3 hi
 refine⟨Nat.le_refl _,by simp;omega,fun hl=>?_,fun hl=>?_⟩
 ·have h10:s.getD i 0=10:=by
   rcases hc with hc|hc
   ·omega
   ·exact hc
  refine⟨?_,by simp⟩
  rw[anw_ h1 (by omega),h10,t0_ h4]at h3
  dsimp only
  rw[List.append_assoc];exact h3
 ·have hil:i=s.length:=by omega
  have e:(s.drop p.1).take (i - p.1)=s.drop p.1:=T1_ (by rw[List.length_drop];omega)
  rw[e]at h4 ⊢
  rw[ou_ h4]at h3
  exact h3
theorem awj_ {s:Str} {i:Nat} {p:Nat × List Str} (h:CutI s i p) (hi:i<s.length) (hc:s.getD i 0≠10):CutI s (i+1) p:=by
 obtain⟨h1,h2,h3, -⟩:=h
 obtain⟨h3,h4⟩:=h3 (by omega)
 refine⟨by omega,by omega,fun _=>⟨h3,?_⟩,fun hl=>by omega⟩
 rw[show i+1 - p.1=(i - p.1)+1 by omega,List.take_add_one,List.getElem?_drop,show p.1+(i - p.1)=i by omega,T6_ hi]
 rw[T8_,T6_ hi]at hc
 simp only[Option.toList_some,List.mem_append,List.mem_singleton,not_or]
 exact⟨h4,fun e=>hc e.symm⟩
theorem aud_ {s:Str} {i:Nat} {p:Nat × List Str} (h:CutI s i p) (hi:¬i≤s.length):p.2=spl s:=h.2.2.2 (by omega)
theorem aa9_ {c:UInt8}:((c.toNat:Int)=10)↔c=10:=⟨fun h=>by apply UInt8.toNat_inj.1;show _=10;omega,fun h=>by rw[h];rfl⟩
theorem mr_ (s:Str) (hs:s.length≤281474976710656):ACall En 52 [.s s] [] [.b (tOk s)] []:=by
 refine aa_ [] Tryz.func52 Tryz.ntmps52 fun C=>?_
 refine .seq (.rg [] ?_)
 refine .seq (.rg [] ?_)
 refine .seq (.seq (.rg [] ?_))
 refine .block (.loopK (fun q:Nat × Int=>⟨[.s s,.no,.no,.i .i64 q.2,.i .i64 q.1,.no,.no,.no,.no,.no,.no,.no,.no,.no,.no,.no,.no,.no,.no,.no,.no,.no,.no,.no,.no,.no,.no,.no,.no,.no,.no,.no,.no,.no,.no,.no,.no,.no],ak_ [],us []⟩) (fun q:Nat × Int=>q.1≤s.length∧0≤q.2∧q.2≤120∧i5_ (s.drop q.1) q.2=i5_ s 0) (fun q:Nat × Int=>s.length - q.1) ((0,0)) ?_ ?_ (fun q hI=>?_))
 ·exact⟨by simp,by decide,by decide,rfl⟩
 ·refine Can.wh ?_;first|trivial|(simp)
 refine .seq (.seq (.rg [] ?_))
 refine .cB (fun h8=>?_) (fun h8=>?_)
 ·refine .skip (.seq (.block (.seq (.seq (.rgo [] ?_ ?_)))))
  ·simp only[T3_]at h8;exact⟨⟨⟨by omega,fun h=>⟨h,by omega,by omega⟩⟩,fun h=>⟨h,by omega,by omega⟩⟩,fun h=>⟨h,fun h2=>by rw[h,h2];rfl⟩⟩
  refine .cB (fun h26=>?_) (fun h26=>?_)
  ·refine .seq (.rg [] ?_)
   refine .ret ⟨.inr rfl,?_⟩
   exact Out.pl (by simp only[Tryz.results52];rfl) (by simp only[ag_,go_sem,seval]<;>(simp only[T3_]at h8;rw[T5_]at h26;have hc:=bne_iff_ne.1 h26.1;have e:=rw_ (show q.1<s.length by omega) (w:=q.2) hc;rw[h26.2]at e;unfold tOk;rw[←hI.2.2.2,e];rfl))
  ·refine .skip (.seq (.rg [] ?_))
   refine .seqJ (fun p:Int=>⟨[.s s,.no,.no,.i .i64 p,.i .i64 q.1,.no,.no,.no,.no,.no,.no,.no,.no,.no,.no,.no,.no,.no,.no,.no,.no,.no,.no,.no,.no,.no,.no,.no,.no,.no,.no,.no,.no,.no,.no,.no,.no,.no],ak_ [],us []⟩) (fun p:Int=>p=if ((s.getD q.1 0).toNat:Int)=10 then 0 else q.2+1) ?_ (fun p hJ=>?_)
   ·refine .seq (.rgo [] ?_ ?_)
    ·simp only[T3_]at h8;omega
    refine .cB (fun h32=>?_) (fun h32=>?_)
    ·refine .rg [] ?_
     refine Exists.intro (0) ⟨?_,?_⟩
     ·first|(rw[if_pos (beq_iff_eq.1 h32)])|(rw[if_neg (by rw[beq_eq_false_iff_ne]at h32;exact h32)])
     refine Can.wh ?_;first|trivial|(exact aj_ (by omega) (by omega))
    ·refine .skip ?_
     refine Exists.intro (q.2+1) ⟨?_,?_⟩
     ·first|(rw[if_pos (beq_iff_eq.1 h32)])|(rw[if_neg (by rw[beq_eq_false_iff_ne]at h32;exact h32)])
     refine Can.wh ?_;first|trivial|(exact aj_ (by omega) (by omega))
   refine .seq (.rg [] ?_)
   refine .cB (fun h34=>?_) (fun h34=>?_)
   ·refine .seq (.rg [] ?_)
    refine .ret ⟨.inr rfl,?_⟩
    exact Out.pl (by simp only[Tryz.results52];rfl) (by simp only[ag_,go_sem,seval]<;>(simp only[T3_]at h8 h34;by_cases hc:((s.getD q.1 0).toNat:Int)=10;(rw[if_pos hc]at hJ;omega);(have e:=rw_ (show q.1<s.length by omega) (w:=q.2) hc;rw[if_neg hc]at hJ;rw[decide_eq_true (show q.2+1 > 120 by omega)]at e;unfold tOk;rw[←hI.2.2.2,e];simp)))
   ·refine .skip (.rg [] ?_)
    refine Exists.intro ((q.1+1,p)) ⟨?_,?_,?_⟩
    ·simp only[T3_]at h8;simp only[T4_]at h34;have e:=tl_ (show q.1<s.length by omega) q.2;by_cases hc:((s.getD q.1 0).toNat:Int)=10;(rw[if_pos hc]at e hJ;exact⟨by dsimp only;omega,by dsimp only;omega,by dsimp only;omega,by dsimp only;rw[hJ,←e];exact hI.2.2.2⟩);(have e:=rw_ (show q.1<s.length by omega) (w:=q.2) hc;rw[if_neg hc]at hJ;have h26':(decide (((s.getD q.1 0).toNat:Int)<32)||decide (((s.getD q.1 0).toNat:Int) > 126))=false:=(by rw[show(((s.getD q.1 0).toNat:Int) != 10)=true from bne_iff_ne.2 hc,Bool.true_and]at h26;exact h26);rw[h26',decide_eq_false (show ¬q.2+1 > 120 by omega)]at e;exact⟨by dsimp only;omega,by dsimp only;omega,by dsimp only;omega,by dsimp only;rw[hJ,←hI.2.2.2,e];rfl⟩)
    ·simp at h8;dsimp only;omega
    refine Can.wh ?_;first|trivial|(rw[aj_ (by simp at h8;omega) (by simp at h8;omega)];simp)
 ·refine .exit (.seq (.rg [] ?_))
  refine .ret ⟨.inr rfl,?_⟩
  exact Out.pl (by simp only[Tryz.results52];rfl) (by simp only[ag_,go_sem,seval]<;>(simp only[T4_]at h8;have e:=hI.2.2.2;rw[List.drop_of_length_le (by omega)]at e;unfold tOk;rw[←e];simp only[i5_,Bool.true_and];rw[show decide ((s.length:Int)≤4000)=decide (s.length≤4000)from decide_eq_decide.2 (by omega)]))
attribute [local go_sem] al_ aq_ in
theorem or_ (s:Str) (hs:s.length≤4000):ACall En 9 [.s s,.i .u8 10] [] [.sl false (an_ (spl s))] []:=by
 refine aa_ [] Tryz.func9 Tryz.ntmps9 fun C=>?_
 refine .seq (.rg [] ?_)
 refine .seq (.rg [] ?_)
 refine .seq (.rg [] ?_)
 refine .seq (.seq (.rg [] ?_))
 refine .block (.loopK (fun q:Nat × Nat × List Str=>⟨[.s s,.i .u8 10,.no,.no,.no,.ow 18 1 0 q.2.2.length,.i .i64 q.2.1,.i .i64 q.1,.no,.no,.no,.no,.no,.no,.no,.no,.no,.no,.no,.no,.no,.no,.no,.no,.no,.no,.no,.no,.no,.no,.no,.no,.no,.no,.no,.no],ak_ [(18,⟨9,1,an_ q.2.2⟩)],us [18]⟩) (fun q:Nat × Nat × List Str=>q.1≤s.length+1∧CutI s q.1 q.2) (fun q:Nat × Nat × List Str=>s.length+1 - q.1) ((0,0,[])) ?_ ?_ (fun q hI=>?_))
 ·exact⟨by simp,aoh_ s⟩
 ·refine Can.trans (Can.ownSlot 5 18 9 1 (by simp only[go_sem,seval]<;>rfl) (by simp only[go_sem,seval]) (by simp only[go_sem,seval]<;>rfl)) ?_
  refine Can.wk ?_ ?_
  ·first|trivial|((try simp))
  ·first|trivial|((try simp[an_]))
 refine .seq (.seq (.rg [] ?_))
 refine .cB (fun h12=>?_) (fun h12=>?_)
 ·refine .skip (.seqJ (fun p:Nat × List Str=>⟨[.s s,.i .u8 10,.no,.no,.no,.ow 18 1 0 p.2.length,.i .i64 p.1,.i .i64 q.1,.no,.no,.no,.no,.no,.no,.no,.no,.no,.no,.no,.no,.no,.no,.no,.no,.no,.no,.no,.no,.no,.no,.no,.no,.no,.no,.no,.no],ak_ [(18,⟨9,1,an_ p.2⟩)],us [18]⟩) (fun p:Nat × List Str=>CutI s (q.1+1) p) ?_ (fun p hJ=>?_))
  ·refine .block (.seq (.rgo [] ?_ ?_))
   ·simp only[T3_]at h12;exact⟨fun h=>⟨h,by omega,by simp only[Bool.not_eq_true',beq_eq_false_iff_ne]at h;omega⟩,fun h=>by rw[h];rfl⟩
   refine .cB (fun h25=>?_) (fun h25=>?_)
   ·refine .seq (.rgo [] ?_ ?_)
    ·simp only[T3_]at h12;have h1:=hI.2.1;have h2:=hI.2.2.1;refine⟨⟨by omega,by omega,by omega,by omega,by simp⟩,by simp,by simp,by omega⟩
    refine .rg [] ?_
    refine Exists.intro ((q.1+1,q.2.2++[(s.drop q.2.1).take (q.1 - q.2.1)])) ⟨?_,?_⟩
    ·simp only[T3_]at h12;first|(refine awb_ hI.2 (by omega) ?_;simp only[Bool.or_eq_true,beq_iff_eq]at h25;rcases h25 with h|h;exact .inl (by omega);exact .inr (aa9_.1 h))|(simp only[Bool.or_eq_false_iff,beq_eq_false_iff_ne]at h25;exact awj_ hI.2 (by omega) (fun e=>h25.2 (aa9_.2 e)))
    refine Can.trans (Can.sX 42 18) ?_
    refine Can.wk ?_ ?_
    ·first|trivial|(first|rfl|(refine⟨by simp,?_⟩;simp only[T3_]at h12;exact id_ (q.1+1) (by omega)))
    ·first|trivial|(first|rfl|(rw[List.drop_take,b6_];rfl))
   ·refine .skip ?_
    refine Exists.intro ((q.2.1,q.2.2)) ⟨?_,?_⟩
    ·simp only[T3_]at h12;first|(refine awb_ hI.2 (by omega) ?_;simp only[Bool.or_eq_true,beq_iff_eq]at h25;rcases h25 with h|h;exact .inl (by omega);exact .inr (aa9_.1 h))|(simp only[Bool.or_eq_false_iff,beq_eq_false_iff_ne]at h25;exact awj_ hI.2 (by omega) (fun e=>h25.2 (aa9_.2 e)))
    refine Can.wk ?_ ?_
    ·first|trivial|(first|rfl|(refine⟨by simp,?_⟩;simp only[T3_]at h12;exact id_ (q.1+1) (by omega)))
    ·first|trivial|(first|rfl|(rw[List.drop_take,b6_];rfl))
  refine .rg [] ?_
  refine Exists.intro ((q.1+1,p.1,p.2)) ⟨?_,?_,?_⟩
  ·simp only[T3_]at h12;exact⟨by dsimp only;omega,hJ⟩
  ·simp at h12;dsimp only;omega
  refine Can.wk ?_ ?_
  ·first|trivial|(rw[aj_ (by simp at h12;omega) (by simp at h12;omega)];(try simp))
  ·first|trivial|((try simp))
 ·refine .exit (.seq (.rg [] ?_))
  refine .fX 18 ?_
  refine .ret ⟨.inr rfl,?_⟩
  exact Out.plL (by simp only[Tryz.results9];rfl) (by simp only[ag_,go_sem,seval]<;>(simp only[T4_]at h12;have e:=aud_ hI.2 (by omega);rw[←e];simp[peel,leV,af_,al_,T1_]))
attribute [local go_sem] aq_ in
theorem k8_ (s:Str) (hs:s.length≤281474976710656):ACall En 30 [.s s] [] [.sl false (an_ (bt_ s))] []:=by
 refine aa_ [] Tryz.func30 Tryz.ntmps30 fun C=>?_
 refine .seq (.rgo [] ?_ ?_)
 ·(first|trivial|(simp;done)|(simpa using h5))
 refine .seq (.seq (.rgo [ab_ (mr_ s hs)] ?_ ?_))
 ·(first|trivial|(simp;done)|(simpa using h5))
 refine .cB (fun h5=>?_) (fun h5=>?_)
 ·refine .seq (.rgo [] ?_ ?_)
  ·(first|trivial|(simp;done)|(simpa using h5))
  refine .ret ⟨.inr rfl,?_⟩
  exact Out.plL (by simp only[Tryz.results30];rfl) (by simp only[ag_,go_sem,seval]<;>(simp at h5;simp[bt_,h5,an_,ler]))
 ·refine .skip (.seq (.rgo [a4_ (tOk s=true) (fun h=>or_ s (mg_ h))] ?_ ?_))
  ·(first|trivial|(simp;done)|(simpa using h5))
  refine .ret ⟨.inr rfl,?_⟩
  exact Out.plL (by simp only[Tryz.results30];rfl) (by simp only[ag_,go_sem,seval]<;>(simp at h5;simp[bt_,h5,af_,leV]))
end
section
set_option maxRecDepth 100000
set_option maxHeartbeats 4000000
theorem ab9_ {α:Type} {d:α} {a b:List α} {k:Nat} (ha:k<a.length) (hb:k<b.length) (h:a.take k=b.take k) (e:a.getD k d=b.getD k d):a.take (k+1)=b.take (k+1):=by
 rw[List.take_add_one (l:=a),List.take_add_one (l:=b),h,T6_ ha,T6_ hb]
 rw[T8_,T8_,T6_ ha,T6_ hb]at e
 rw[show a[k]=b[k] by simpa using e]
end
section
set_option maxRecDepth 100000
set_option maxHeartbeats 4000000
theorem alv_:ACall En 138 [.sl false []] [] [.ow 0 1 0 0] [⟨3,1,[]⟩]:=by
 refine aa_ [17] Tryz.func138 Tryz.ntmps138 fun C=>?_
 refine .seq (.rg [] ?_)
 refine .seq (.seq (.rgS [4] [nilO En] ?_))
 refine .condQ (by simp only[go_sem,seval]<;>rfl) (by simp only[go_sem,seval]) ?_ ?_
 ·refine .seq (.rg [] ?_)
  refine .can (Can.ownSlot 2 17 3 1 (by simp only[go_sem,seval]<;>rfl) (by simp only[go_sem,seval]) (by simp only[go_sem,seval]<;>rfl)) ?_
  refine .ret ⟨.inr rfl,?_⟩
  exact Out.mm (by simp only[Tryz.results138];rfl) (by simp only[ag_,rns,rn,go_sem,seval]<;>(simp)) (by simp only[at_,go_sem,seval]<;>(simp))
 ·refine .skip (.seq (.rg [] ?_))
  refine .ret ⟨.inr rfl,?_⟩
  exact Out.mm (by simp only[Tryz.results138];rfl) (by simp only[ag_,rns,rn,go_sem,seval]<;>(simp)) (by simp only[at_,go_sem,seval]<;>(simp))
attribute [local go_sem] ao_ as_ jc_ bh_ bv_ V.pure in
theorem alz_ (e:Int) (r:List Int) (hl:r.length<1099511627776):ACall En 138 [.sl false (inR (e::r))] [] [.ow 0 1 0 (r.length+1)] [⟨3,1,inR (e::r)⟩]:=by
 refine aa_ [17] Tryz.func138 Tryz.ntmps138 fun C=>?_
 refine .seq (.rg [] ?_)
 refine .seq (.seq (.rgS [4] [nilO En] ?_))
 refine .cB (fun h4=>?_) (fun h4=>?_)
 ·exact absurd h4 (by simp)
 ·refine .skip (.seq (.rgo [] ?_ ?_))
  ·have:=as_ r;simp[jc_,acf_];omega
  refine .ret ⟨.inr rfl,?_⟩
  exact Out.mm (by simp only[Tryz.results138];rfl) (by simp only[ag_,rns,rn,go_sem,seval]<;>(simp[as_])) (by simp only[at_,go_sem,seval]<;>(simp[jc_,be_,ao_]))
theorem aom_ (l:List Int) (hl:l.length<1099511627776):ACall En 138 [.sl false (inR l)] [] [.ow 0 1 0 l.length] [⟨3,1,inR l⟩]:=by
 cases l with
 |nil=>simp only[inR];exact alv_
 |cons e r=>exact alz_ e r (by simp at hl;omega)
attribute [local go_sem] ao_ as_ in
theorem aj8_ (l:List Int) (hl:l.length<1099511627776):ACall En 137 [.ow 0 1 0 l.length] [⟨3,1,inR l⟩] [.ow 0 1 0 l.length] [⟨3,1,inR l⟩]:=by
 refine aa_ [0] Tryz.func137 Tryz.ntmps137 fun C=>?_
 refine .seq (.rg [] ?_)
 refine .seq (.rg [] ?_)
 refine .ret ⟨.inr rfl,?_⟩
 exact Out.mm (by simp only[Tryz.results137];rfl) (by simp only[ag_,rns,rn,go_sem,seval]<;>(simp)) (by simp only[at_,go_sem,seval]<;>(simp[be_,ao_]))
attribute [local go_sem] ao_ as_ at_ bm_ be_ in
theorem adp_ (l:List Int) (hl:l.length<1099511627776):ACall En 75 [.sl false (inR l)] [] [.ow 0 1 0 l.length] [⟨3,1,inR l⟩]:=by
 refine aa_ [14] Tryz.func75 Tryz.ntmps75 fun C=>?_
 refine .seq (.rgo [] ?_ ?_)
 ·(first|trivial|(simp;done)|(simp[be_,ao_,af_];done))
 refine .seq (.rgo [bf_ [] [14] (aom_ l hl),bf_ [14] [] (aj8_ l hl)] ?_ ?_)
 ·(first|trivial|(simp;done)|(simp[be_,ao_,af_];done))
 refine .ret ⟨.inr rfl,?_⟩
 exact Out.mm (by simp only[Tryz.results75];rfl) (by simp only[ag_,rns,rn,go_sem,seval]<;>(simp)) (by simp only[at_,go_sem,seval]<;>(simp[be_,ao_]))
theorem aq8_ (l:List Int) (hl:l.length<1099511627776):ACall En 75 [.sl false (inR l)] [] [.sl false (inR l)] []:=
 (adp_ l hl).frz1 (by simp[er_,frz,as_,T1_])
structure Pg where
 line:Str
 good:Bool
 text:Str
 frm:List Int
deriving DecidableEq
def Pg0:Pg:=⟨[],false,[],[]⟩
def pgC (p:Pg):List V:=[.s p.line,.b p.good,.s p.text,.sl false (inR p.frm)]
def pgR (l:List Pg):List (List V):=l.map pgC
theorem bl_ (l:List Pg):(pgR l).length=l.length:=by simp[pgR]
theorem a6_:∀l:List Pg,bh_ (pgR l)=true
 |[]=>rfl
 |p::l=>by
  show bh_ (pgC p::pgR l)=true
  simp only[bh_,pgC,bv_,V.pure,ao_,a6_ l,Bool.and_true]
theorem vn_ (p:Pg):bv_ (pgC p)=true:=by simp only[pgC,bv_,V.pure,ao_,Bool.and_true]
theorem c9_ {l:List Pg} {k:Nat} (h:k<l.length):(pgR l).getD k []=pgC (l.getD k Pg0):=by
 simp[pgR,T8_,T6_ h]
theorem cn_ (p:Pg):pgC p=[.s p.line,.b p.good,.s p.text,.sl false (inR p.frm)]:=rfl
def ez_ (s:Str):Bool:=tOk s&&!of_ s
theorem x5_ (s:Str):of_ s=decide (1<(spl s).length):=by
 unfold of_
 by_cases h:(10:UInt8)∈s
 ·obtain⟨a,b,rfl,ha⟩:=List.eq_append_cons_of_mem h
  rw[t0_ ha]
  have:=List.length_pos_iff.2 (aa5_ b)
  simp;omega
 ·rw[ou_ h];simpa using h
def du_ (s:Str):Pg:=if ez_ s then(match ci_ s with|none=>⟨s,false,[],[]⟩|some x=>⟨s,true,emT x,emF x⟩)else Pg0
theorem vr_ (s:Str) (hs:s.length≤281474976710656):ACall En 72 [.s s] [] [.b (ez_ s)] []:=by
 refine aa_ [] Tryz.func72 Tryz.ntmps72 fun C=>?_
 refine .seq (.rg [] ?_)
 refine .seq (.rg [ab_ (x8_ s hs),ab_ (ast_ s)] ?_)
 refine .ret ⟨.inr rfl,?_⟩
 exact Out.pl (by simp only[Tryz.results72];rfl) (by simp only[ag_,go_sem,seval]<;>(rfl))
end
section
set_option maxRecDepth 100000
set_option maxHeartbeats 4000000
theorem we_ (s:Str):g6_ ((ci_ s).getD S0)=true:=by
 cases h:ci_ s with
 |none=>decide
 |some x=>
  by_cases hc:(a1_ s).isSome=true∧sok (rdS (bg_ s))=true∧stxt (rdS (bg_ s))=s
  ·rw[u4_ hc.1 hc.2.1 hc.2.2]at h
   cases h;exact ao0_ (mj_ s).1
  ·rw[t5_ hc]at h;cases h
theorem aeo_ {s:Str} (h:(ci_ s).isSome=true):sok ((ci_ s).getD S0)=true:=by
 cases hx:ci_ s with
 |none=>rw[hx]at h;cases h
 |some x=>exact(qo_.1 hx).1
theorem aj2_ {s:Str} (h:ez_ s=false):du_ s=Pg0:=by unfold du_;rw[h];rfl
theorem wo_ {s:Str} (h:ez_ s=true) (h2:(ci_ s).isSome=false):du_ s=⟨s,false,[],[]⟩:=by
 unfold du_;rw[h]
 cases hx:ci_ s with
 |none=>rfl
 |some x=>rw[hx]at h2;cases h2
theorem aap_ {s:Str} (h:ez_ s=true) (h2:(ci_ s).isSome=true):du_ s=⟨s,true,emT ((ci_ s).getD S0),emF ((ci_ s).getD S0)⟩:=by
 unfold du_;rw[h]
 cases hx:ci_ s with
 |none=>rw[hx]at h2;cases h2
 |some x=>rfl
theorem a0o_ {s:Sl} (h:sok s=true):(emF s).length=(bw (bof s)).length:=by
 have q:=ik_ (dw_ h)
 unfold emF;rw[if_pos h,←aac_ (dw_ h),g3_]
 rw[←q.2,List.length_map]
theorem emFL {s:Sl} (h:sok s=true):(emF s).length<1000000:=by rw[a0o_ h];have:=(nh_ (i6_ (dw_ h))).1;omega
theorem xb_ (s:Str):(!tOk s||decide (((spl s).length:Int) > 1))=!ez_ s:=by
 unfold ez_;rw[x5_,Bool.not_and,Bool.not_not];congr 1;exact decide_eq_decide.2 (by omega)
attribute [local go_sem] br_ ao_ cn_ in
theorem rv_ (s:Str) (hs:s.length≤281474976710656):ACall En 35 [.s s] [] [.ag (pgC (du_ s))] []:=by
 have X1:=we_ s
 have X2:=@aeo_ s
 have P1:=@aj2_ s
 have P2:=@wo_ s
 have P3:=@aap_ s
 have R:=r0_ s hs
 generalize (ci_ s).getD S0=x at *
 generalize (ci_ s).isSome=ok at *
 refine aa_ [] Tryz.func35 Tryz.ntmps35 fun C=>?_
 refine .seq (.rgo [] ?_ ?_)
 ·(first|trivial|(simp;done)|(simpa using h17)|exact⟨by simpa using h17,rfl⟩)
 refine .seq (.seq (.rgo [ab_ (vr_ s hs)] ?_ ?_))
 ·(first|trivial|(simp;done)|(simpa using h17)|exact⟨by simpa using h17,rfl⟩)
 refine .cB (fun h9=>?_) (fun h9=>?_)
 ·refine .seq (.rgo [] ?_ ?_)
  ·(first|trivial|(simp;done)|(simpa using h17)|exact⟨by simpa using h17,rfl⟩)
  refine .ret ⟨.inr rfl,?_⟩
  exact Out.plL (by simp only[Tryz.results35];rfl) (by simp only[ag_,go_sem,seval]<;>(rw[P1 (by simpa using h9)];simp[Pg0,les,leV,ler,inR]))
 ·refine .skip (.seq (.rgo [ab_ R] ?_ ?_))
  ·(first|trivial|(simp;done)|(simpa using h17)|exact⟨by simpa using h17,rfl⟩)
  refine .seq (.seq (.rgo [] ?_ ?_))
  ·(first|trivial|(simp;done)|(simpa using h17)|exact⟨by simpa using h17,rfl⟩)
  refine .cB (fun h17=>?_) (fun h17=>?_)
  ·refine .seq (.rgo [] ?_ ?_)
   ·(first|trivial|(simp;done)|(simpa using h17)|exact⟨by simpa using h17,rfl⟩)
   refine .ret ⟨.inr rfl,?_⟩
   exact Out.plL (by simp only[Tryz.results35];rfl) (by simp only[ag_,go_sem,seval]<;>(rw[P2 (by simpa using h9) (by simpa using h17)];simp[les,leV,ler,inR]))
  ·refine .skip (.seq (.rgo [a4_ (ok=true) (fun h=>aw4_ x (X2 h) X1)] ?_ ?_))
   ·(first|trivial|(simp;done)|(simpa using h17)|exact⟨by simpa using h17,rfl⟩)
   refine .seq (.rgo [a4_ (ok=true) (fun h=>aq8_ (emF x) (by have:=emFL (X2 h);omega))] ?_ ?_)
   ·(first|trivial|(simp;done)|(simpa using h17)|exact⟨by simpa using h17,rfl⟩)
   refine .ret ⟨.inr rfl,?_⟩
   exact Out.plL (by simp only[Tryz.results35];rfl) (by simp only[ag_,go_sem,seval]<;>(rw[P3 (by simpa using h9) (by simpa using h17)];simp[les,leV,ler,af_]))
attribute [local go_sem] br_ ao_ cn_ al_ aq_ in
theorem m0_ (s:Str) (hs:s.length≤281474976710656):ACall En 31 [.s s] [] [.ag (pgC (du_ s))] []:=by
 have X1:=we_ s
 have X2:=@aeo_ s
 have P1:=@aj2_ s
 have P2:=@wo_ s
 have P3:=@aap_ s
 have R:=r3_ s hs
 have hn:=x5_ s
 have hI:ez_ s=(tOk s&&!of_ s):=rfl
 generalize (ci_ s).getD S0=x at *
 generalize (ci_ s).isSome=ok at *
 refine aa_ [] Tryz.func31 Tryz.ntmps31 fun C=>?_
 refine .seq (.rg [] ?_)
 refine .seq (.seq (.rg [ab_ (mr_ s hs),a4_ (tOk s=true) (fun h=>or_ s (mg_ h))] ?_))
 refine .cB (fun h15=>?_) (fun h15=>?_)
 ·refine .seq (.rg [] ?_)
  refine .ret ⟨.inr rfl,?_⟩
  exact Out.plL (by simp only[Tryz.results31];rfl) (by simp only[ag_,go_sem,seval]<;>(rw[xb_]at h15;rw[P1 (by simpa using h15)];simp[Pg0,les,leV,ler,inR]))
 ·refine .skip (.seq (.rg [ab_ R] ?_))
  refine .seq (.seq (.rg [] ?_))
  refine .cB (fun h23=>?_) (fun h23=>?_)
  ·refine .seq (.rg [] ?_)
   refine .ret ⟨.inr rfl,?_⟩
   exact Out.plL (by simp only[Tryz.results31];rfl) (by simp only[ag_,go_sem,seval]<;>(rw[xb_]at h15;rw[P2 (by simpa using h15) (by simpa using h23)];simp[les,leV,ler,inR]))
  ·refine .skip (.seq (.rg [ab_ (ab7_ x X1)] ?_))
   refine .seq (.rg [] ?_)
   refine .ret ⟨.inr rfl,?_⟩
   exact Out.plL (by simp only[Tryz.results31];rfl) (by simp only[ag_,go_sem,seval]<;>(rw[xb_]at h15;rw[P3 (by simpa using h15) (by simpa using h23)];simp[les,leV,ler,af_]))
theorem tf_ {a b:Pg} (h:(((!(a.line==b.line)||!(a.good==b.good))||!(a.text==b.text))||((a.frm.length:Int) != (b.frm.length:Int)))=false):a.line=b.line∧a.good=b.good∧a.text=b.text∧a.frm.length=b.frm.length:=by
 simp only[Bool.or_eq_false_iff,Bool.not_eq_false',beq_iff_eq,bne_eq_false_iff_eq]at h
 exact⟨h.1.1.1,h.1.1.2,h.1.2,by omega⟩
end
section
set_option maxRecDepth 100000
set_option maxHeartbeats 4000000
end
section
set_option maxRecDepth 100000
set_option maxHeartbeats 4000000
def torn (b:Str) (p:Int) (l:List Str) (s:Str):Str:=
 s.take (o8_ b p s.length).toNat++ofI b (p+1) l++s.drop ((o8_ b p s.length).toNat+(o8_ b (p+1+1) 2).toNat)
end
section
set_option maxRecDepth 100000
set_option maxHeartbeats 4000000
end
section
set_option maxRecDepth 100000
set_option maxHeartbeats 4000000
theorem ajx_ {s:Str} (h:lnOk s):ez_ s=true:=by
 have h1:=yj_ (w:=0) h.1 (by have:=h.2;omega)
 have h2:=h.2
 unfold ez_ tOk
 rw[h1,decide_eq_true (by omega)]
 have:of_ s=false:=by unfold of_;rw[Bool.eq_false_iff];intro q;exact ao5_ h (by simpa using q)
 rw[this];rfl
end
section
set_option maxRecDepth 100000
def okP (p:Pg):Bool:=ez_ p.line&&decide (p=du_ p.line)
def bq_ (l:List Pg):Bool:=decide (1≤l.length)&&decide (l.length≤16)&&l.all okP
def jk_ (s:Str):List Pg:=if (bt_ s).length≤16 then(bt_ s).map du_ else []
def f0_ (s:Str):Sl:=(ci_ s).getD S0
def lk_ (l:List Pg):List Sl:=l.map fun p=>f0_ p.line
def bo_ (l:List Pg):Str:=if bq_ l then ce_ (l.map (·.line))else []
def e0_ (l:List Pg):Str:=if bq_ l then ce_ (l.map (·.text))else []
def gb_ (l:List Pg):Nat→List Sg
 |0=>[]
 |k+1=>gb_ l k++(if (l.getD k Pg0).good then sgs k ((a1_ (l.getD k Pg0).text).getD []) (l.getD k Pg0).frm else [])
def a9_ (l:List Pg):List Sg:=if bq_ l then gb_ l l.length else []
def ga_ (l:List Pg):Nat→List Int
 |0=>[]
 |k+1=>ga_ l k++(if (l.getD k Pg0).good then []else [(k:Int)])
def ks_ (l:List Pg):List Int:=if bq_ l then ga_ l l.length else []
theorem cc_ {l:List Pg} (h:bq_ l=true):1≤l.length∧l.length≤16∧∀k,k<l.length→okP (l.getD k Pg0)=true:=by
 simp only[bq_,T5_,T3_]at h
 exact⟨h.1.1,h.1.2,fun k hk=>List.all_eq_true.1 h.2 _ (am_ hk)⟩
theorem l8_ {p:Pg} (h:okP p=true):ez_ p.line=true∧p=du_ p.line:=by
 simp only[okP,T5_,T3_]at h;exact h
theorem va_ (s:Str):sok (f0_ s)=true:=by
 unfold f0_
 cases h:ci_ s with
 |none=>exact afo_
 |some x=>exact(qo_.1 h).1
theorem emT_S0':emT S0=[]:=by unfold emT;rw[if_pos afo_];decide
theorem jp_ {p:Pg} (h:okP p=true):p.text=emT (f0_ p.line)∧p.frm=emF (f0_ p.line)∧p.good=(ci_ p.line).isSome:=by
 obtain⟨h1,h2⟩:=l8_ h
 unfold f0_
 cases hx:ci_ p.line with
 |none=>rw[h2,wo_ h1 (by rw[hx];rfl)];exact⟨emT_S0'.symm,emF_S0.symm,rfl⟩
 |some x=>rw[h2,aap_ h1 (by rw[hx];rfl),hx];exact⟨rfl,rfl,rfl⟩
theorem aho_ {l:List Pg} {k:Nat} (h:k<l.length):(lk_ l).getD k S0=f0_ (l.getD k Pg0).line:=by
 simp[lk_,T8_,T6_ h]
theorem k6_ (l:List Pg):(lk_ l).length=l.length:=by simp[lk_]
theorem ag9_ {l:List Pg} (h:bq_ l=true):pok (lk_ l)=true:=by
 obtain⟨h1,h2,_⟩:=cc_ h
 simp only[pok,k6_,T5_,T3_]
 refine⟨⟨h1,h2⟩,List.all_eq_true.2 fun x hx=>?_⟩
 obtain⟨p,_,rfl⟩:=List.mem_map.1 hx
 exact va_ _
theorem arc_ {p:Pg} (h:okP p=true) (hg:p.good=false):f0_ p.line=S0:=by
 have:=(jp_ h).2.2
 unfold f0_
 cases hx:ci_ p.line with
 |none=>rfl
 |some x=>rw[hg,hx]at this;cases this
theorem aa2_ {l:List Pg} (h:bq_ l=true):∀k,k≤l.length→gb_ l k=sgN (lk_ l) k
 |0,_=>rfl
 |k+1,hk=>by
  have ho:=(cc_ h).2.2 k (by omega)
  rw[gb_,sgN,aa2_ h k (by omega),aho_ (by omega)]
  congr 1
  cases hg:(l.getD k Pg0).good with
  |true=>obtain⟨q1,q2,_⟩:=jp_ ho;rw[q1,q2];rfl
  |false=>rw[arc_ ho hg,aym_];rfl
theorem ap5_ {l:List Pg} (h:bq_ l=true):a9_ l=sgP (lk_ l):=by
 unfold a9_ sgP
 rw[if_pos h,if_pos (ag9_ h),aa2_ h _ (Nat.le_refl _),k6_]
theorem ix_ {l:List Pg} (h:bq_ l=true):∀p∈l,okP p=true:=by
 simp only[bq_,T5_]at h
 exact List.all_eq_true.1 h.2
theorem ahw_:∀ {l:Str} {w:Int},i5_ l w=true→(10:UInt8) ∉ l→w≤120→l.all prt=true∧w+l.length≤120
 |[],w,_,_,hw=>⟨rfl,by simpa using hw⟩
 |c::l,w,h,hn,hw=>by
  simp only[List.mem_cons,not_or]at hn
  rw[i5_,if_neg (fun e=>hn.1 e.symm)]at h
  simp only[T5_,T3_]at h
  obtain⟨q1,q2⟩:=ahw_ h.2 hn.2 h.1.2
  refine⟨?_,by simp only[T7_];omega⟩
  simp only[List.all_cons,q1,Bool.and_true,prt,T5_,T3_]
  exact h.1.1
theorem m2_ {s:Str} (h:ez_ s=true):lnOk s:=by
 simp only[ez_,tOk,of_,T5_,Bool.not_eq_true']at h
 have hn:(10:UInt8) ∉ s:=fun q=>by rw[List.contains_iff_mem.2 q]at h;exact absurd h.2 (by decide)
 obtain⟨q1,q2⟩:=ahw_ h.1.1 hn (by decide)
 exact⟨q1,by omega⟩
theorem n7_ (s:Sl):lnOk (emT s):=by
 by_cases h:sok s=true
 ·rw[yn_ h];exact agq_ (aa4_ h)
 ·unfold emT;rw[if_neg h];exact⟨rfl,by simp⟩
end
section
set_option maxRecDepth 100000
theorem ph_ (l:List Pg):∀k,(ga_ l k).length≤k
 |0=>by simp[ga_]
 |k+1=>by
  have:=ph_ l k
  rw[ga_,T2_];split<;>simp<;>omega
theorem p4_ {l:List Pg} {i n:Nat} (h:(l.getD i Pg0).good=false):(ga_ l (i+1)).length=(ga_ l i).length+1:=by rw[ga_,h];simp
theorem f5_ {l:List Pg} {i:Nat} (h:(l.getD i Pg0).good=true):ga_ l (i+1)=ga_ l i:=by rw[ga_,h];simp
theorem kf_ (l:List Pg):(a9_ l).length≤2000:=by
 cases h:bq_ l with
 |true=>rw[ap5_ h];have:=aw9_ (lk_ l);omega
 |false=>unfold a9_;rw[h];simp
theorem wk_ (l:List Pg):(ks_ l).length≤16:=by
 unfold ks_;split
 ·rename_i h;have:=ph_ l l.length;have:=(cc_ h).2.1;omega
 ·simp
theorem mv_ (l:List Pg):(bo_ l).length≤3000:=by
 unfold bo_;split
 ·rename_i h
  have h1:=(cc_ h).2.1
  have:=aj6_ (l:=l.map (·.line)) (k:=120) fun s hs=>by
   obtain⟨p,hp,rfl⟩:=List.mem_map.1 hs
   exact(m2_ (l8_ (ix_ h p hp)).1).2
  rw[List.length_map]at this
  have:=Nat.mul_le_mul_right 121 h1
  omega
 ·simp
theorem rj_ (l:List Pg):(e0_ l).length≤3000:=by
 unfold e0_;split
 ·rename_i h
  have h1:=(cc_ h).2.1
  have:=aj6_ (l:=l.map (·.text)) (k:=120) fun s hs=>by
   obtain⟨p,hp,rfl⟩:=List.mem_map.1 hs
   rw[(jp_ (ix_ h p hp)).1];exact(n7_ _).2
  rw[List.length_map]at this
  have:=Nat.mul_le_mul_right 121 h1
  omega
 ·simp
end
section
set_option maxRecDepth 100000
def pgB (p:Pg):Prop:=p.line.length≤2000000∧p.text.length≤2000000∧p.frm.length≤2000000
theorem awy_ (s:Sl):(emF s).length≤1000:=by
 by_cases h:sok s=true
 ·have:=aau_ h;omega
 ·unfold emF;rw[if_neg h];simp
theorem zo_ {s:Str} (h:s.length≤2000000):pgB (du_ s):=by
 unfold du_
 split
 ·cases hx:ci_ s with
  |none=>exact⟨h,by simp,by simp⟩
  |some x=>exact⟨h,by have:=(n7_ x).2;dsimp only;omega,by have:=awy_ x;dsimp only;omega⟩
 ·exact⟨by simp[Pg0],by simp[Pg0],by simp[Pg0]⟩
end
section
set_option maxRecDepth 100000
def bc_ (l:List Pg) (a:Int) (d:Nat) (ls:List Str):Bool:=
 bq_ l&&(decide (0≤a)&&decide (a≤(l.length:Int) - d))&&ls.all ez_&&(decide (1≤(l.length:Int) - d+ls.length)&&decide ((l.length:Int) - d+ls.length≤16))
def ny_ (l:List Pg) (a d:Nat) (ls:List Str):List Pg:=l.take a++ls.map du_++l.drop (a+d)
def chg (l:List Pg) (a:Int) (d:Nat) (ls:List Str):List Pg:=if bc_ l a d ls then ny_ l a.toNat d ls else []
theorem aku_ {s:Str} (h:ez_ s=true):(du_ s).line=s:=by
 unfold du_;rw[if_pos h];split<;>rfl
theorem aqy_ {s:Str} (h:ez_ s=true):okP (du_ s)=true:=by
 unfold okP;rw[aku_ h,h];simp
theorem ah6_ {l:List Pg} (h1:1≤l.length) (h2:l.length≤16) (h:∀p∈l,okP p=true):bq_ l=true:=by
 unfold bq_;rw[decide_eq_true h1,decide_eq_true h2,List.all_eq_true.2 h];rfl
theorem dt_ {l:List Pg} {a:Int} {d:Nat} {ls:List Str} (h:bc_ l a d ls=true):bq_ l=true∧0≤a∧a≤(l.length:Int) - d∧(∀s∈ls,ez_ s=true)∧1≤(l.length:Int) - d+ls.length∧(l.length:Int) - d+ls.length≤16:=by
 simp only[bc_,T5_,T3_,List.all_eq_true]at h
 exact⟨h.1.1.1,h.1.1.2.1,h.1.1.2.2,h.1.2,h.2.1,h.2.2⟩
theorem vx_ {l:List Pg} {a:Int} {d:Nat} {ls:List Str} (h1:bq_ l=true) (h2:0≤a) (h3:a≤(l.length:Int) - d) (h4:∀s∈ls,ez_ s=true) (h5:1≤(l.length:Int) - d+ls.length) (h6:(l.length:Int) - d+ls.length≤16):bc_ l a d ls=true:=by
 simp only[bc_,T5_,T3_,List.all_eq_true]
 exact⟨⟨⟨h1,h2,h3⟩,h4⟩,h5,h6⟩
theorem ri_ {l:List Pg} {a:Int} {d:Nat} {ls:List Str} (h:bc_ l a d ls=true):chg l a d ls=ny_ l a.toNat d ls:=by unfold chg;rw[if_pos h]
theorem z7_ {l:List Pg} {a:Int} {d:Nat} {ls:List Str} (h:bc_ l a d ls=false):chg l a d ls=[]:=by unfold chg;rw[h];rfl
theorem ui_ {l:List Pg} {a d:Nat} {ls:List Str} (h:a+d≤l.length):(ny_ l a d ls).length=l.length - d+ls.length:=by
 unfold ny_;simp only[T2_,List.length_take,List.length_map,List.length_drop];omega
theorem atd_ {l:List Pg} {a:Int} {d:Nat} {ls:List Str} (h:bc_ l a d ls=true):(chg l a d ls).length=l.length - d+ls.length:=by
 obtain⟨_,h2,h3,_⟩:=dt_ h
 rw[ri_ h,ui_ (by omega)]
theorem aoe_ {l:List Pg} {a:Int} {d:Nat} {ls:List Str} (h:bc_ l a d ls=true):bq_ (chg l a d ls)=true:=by
 obtain⟨h1,h2,h3,h4,h5,h6⟩:=dt_ h
 have hl:=atd_ h
 refine ah6_ (by omega) (by omega) fun p hp=>?_
 rw[ri_ h]at hp
 unfold ny_ at hp
 simp only[List.mem_append,List.mem_map]at hp
 rcases hp with(hp|⟨s,hs,rfl⟩)|hp
 ·exact ix_ h1 p (List.mem_of_mem_take hp)
 ·exact aqy_ (h4 s hs)
 ·exact ix_ h1 p (List.mem_of_mem_drop hp)
theorem aw6_ {l:List Pg} {a d:Nat} {ls:List Str} (h:∀p∈l,pgB p) (hs:∀s∈ls,s.length≤2000000):∀p∈ny_ l a d ls,pgB p:=fun p hp=>by
 unfold ny_ at hp
 simp only[List.mem_append,List.mem_map]at hp
 rcases hp with(hp|⟨s,h1,rfl⟩)|hp
 ·exact h p (List.mem_of_mem_take hp)
 ·exact zo_ (hs s h1)
 ·exact h p (List.mem_of_mem_drop hp)
theorem ju_ {l:List Pg} {a:Int} {w:Str}:bc_ l a 1 [w]=true↔bq_ l=true∧0≤a∧a<l.length∧ez_ w=true:=by
 constructor
 ·intro h
  obtain⟨h1,h2,h3,h4,h5,h6⟩:=dt_ h
  exact⟨h1,h2,by omega,h4 w (by simp)⟩
 ·rintro⟨h1,h2,h3,h4⟩
  have:=cc_ h1
  exact vx_ h1 h2 (by omega) (by simpa using h4) (by simp;omega) (by simp;omega)
theorem qu_ {l:List Pg} {a:Int} {w:Str}:bc_ l a 0 [w]=true↔bq_ l=true∧0≤a∧a≤l.length∧ez_ w=true∧l.length<16:=by
 constructor
 ·intro h
  obtain⟨h1,h2,h3,h4,h5,h6⟩:=dt_ h
  simp at h6
  exact⟨h1,h2,by omega,h4 w (by simp),by omega⟩
 ·rintro⟨h1,h2,h3,h4,h5⟩
  have:=cc_ h1
  exact vx_ h1 h2 (by omega) (by simpa using h4) (by simp;omega) (by simp;omega)
theorem mk_ {l:List Pg} {a:Int}:bc_ l a 1 []=true↔bq_ l=true∧0≤a∧a<l.length∧2≤l.length:=by
 constructor
 ·intro h
  obtain⟨h1,h2,h3,h4,h5,h6⟩:=dt_ h
  simp at h5
  exact⟨h1,h2,by omega,by omega⟩
 ·rintro⟨h1,h2,h3,h4⟩
  have:=cc_ h1
  exact vx_ h1 h2 (by omega) (fun s hs=>by cases hs) (by simp;omega) (by simp;omega)
theorem atm_ {l:List Pg} {a:Int} {w:Str} (h:bc_ l a 1 [w]=true):chg l a 1 [w]=l.set a.toNat (du_ w):=by
 obtain⟨_,h2,h3,_⟩:=ju_.1 h
 rw[ri_ h,List.set_eq_take_append_cons_drop,if_pos (by omega)]
 unfold ny_;simp
theorem a0g_ {l:List Pg} {a:Int} {w:Str} (h:bc_ l a 0 [w]=true):chg l a 0 [w]=l.take a.toNat++du_ w::l.drop a.toNat:=by
 rw[ri_ h];unfold ny_;simp
theorem awx_ {l:List Pg} {a:Int} (h:bc_ l a 1 []=true):chg l a 1 []=l.take a.toNat++l.drop (a.toNat+1):=by
 rw[ri_ h];unfold ny_;simp
end
section
set_option maxRecDepth 100000
theorem agh_:∀ {s:Str} {w:Int},i5_ s w=true→w≤120→∀ {x:Str} {r:List Str},spl s=x::r→(x.all prt=true∧w+x.length≤120)∧∀y∈r,lnOk y
 |[],w,_,hw,x,r,e=>by
  simp only[spl,List.cons.injEq]at e
  obtain⟨rfl,rfl⟩:=e
  exact⟨⟨rfl,by simpa using hw⟩,fun y hy=>by cases hy⟩
 |c::l,w,h,hw,x,r,e=>by
  rw[i5_]at h
  cases hl:spl l with
  |nil=>exact absurd hl (aa5_ l)
  |cons y t=>
   by_cases q:c=10
   ·rw[if_pos q]at h
    subst q
    rw[am4_,hl]at e
    cases e
    obtain⟨⟨a1,a2⟩,a3⟩:=agh_ h (by decide) hl
    refine⟨⟨rfl,by simpa using hw⟩,fun z hz=>?_⟩
    rcases List.mem_cons.1 hz with rfl|hz
    ·exact⟨a1,by omega⟩
    ·exact a3 z hz
   ·rw[if_neg q]at h
    simp only[T5_,T3_]at h
    rw[v9_ q hl]at e
    cases e
    obtain⟨⟨a1,a2⟩,a3⟩:=agh_ h.2 h.1.2 hl
    refine⟨⟨?_,by simp only[T7_];omega⟩,a3⟩
    simp only[List.all_cons,a1,Bool.and_true,prt,T5_,T3_]
    exact h.1.1
theorem ala_ {s w:Str} (h:w∈bt_ s):ez_ w=true:=by
 unfold bt_ at h
 split at h
 ·rename_i q
  simp only[tOk,T5_]at q
  cases hl:spl s with
  |nil=>exact absurd hl (aa5_ s)
  |cons x r=>
   obtain⟨⟨a1,a2⟩,a3⟩:=agh_ q.1 (by decide) hl
   rw[hl]at h
   rcases List.mem_cons.1 h with rfl|h
   ·exact ajx_ ⟨a1,by omega⟩
   ·exact ajx_ (a3 _ h)
 ·cases h
theorem aye_ {ls:List Str} (hL:∀w∈ls,ez_ w=true) (h1:1≤ls.length) (h16:ls.length≤16):bq_ (ls.map du_)=true:=
 ah6_ (by simpa using h1) (by simpa using h16) fun p hp=>by
  obtain⟨w,hw,rfl⟩:=List.mem_map.1 hp
  exact aqy_ (hL w hw)
theorem at9_ {s:Str} (h:jk_ s≠[]):bq_ (jk_ s)=true:=by
 unfold jk_ at h ⊢
 split
 ·rename_i q
  rw[if_pos q]at h
  refine aye_ (fun w hw=>ala_ hw) (Nat.succ_le_of_lt (List.length_pos_iff.2 fun e=>h (by rw[e];rfl))) q
 ·rename_i q;rw[if_neg q]at h;exact absurd rfl h
end
section
set_option maxRecDepth 100000
set_option maxHeartbeats 4000000
def lj_ (ls:List Str):Bool:=ls.all fun w=>(ci_ w).isSome
def prR (s:Str):Bool:=lj_ (bt_ s)&&pok ((bt_ s).map f0_)
def prL (s:Str):List Sl:=if prR s then(bt_ s).map f0_ else []
theorem um_ {l:List Str} {k:Nat} (h:k<l.length):lj_ (l.take (k+1))=(lj_ (l.take k)&&(ci_ (l.getD k [])).isSome):=by
 unfold lj_
 rw[List.take_add_one,T6_ h,List.all_append,T8_,T6_ h];simp
theorem ab8_ {l:List Str} {k:Nat} (h:k<l.length) (hn:(ci_ (l.getD k [])).isSome=false):lj_ l=false:=by
 rw[Bool.eq_false_iff];intro q
 have:=List.all_eq_true.1 q _ (am_ (d:=[]) h)
 rw[hn]at this;cases this
attribute [local go_sem] dx_ ep_ in
theorem anf_ (l:List Sl) (hl:l.length<1099511627776):ACall En 159 [.sl false (sR l)] [] [.sl false (sR l)] []:=by
 refine aa_ [] Tryz.func159 Tryz.ntmps159 fun C=>?_
 refine .seq (.rg [] ?_)
 refine .seq (.rg [] ?_)
 refine .ret ⟨.inr rfl,?_⟩
 exact Out.plL (by simp only[Tryz.results159];rfl) (by simp only[ag_,go_sem,seval]<;>(rw[T1_ (by rw[ep_];exact Nat.le_refl _)];exact af_ _))
theorem jo_ (ls:List Str):oh_ (ls.map f0_)=true:=by
 refine List.all_eq_true.2 fun s hs=>?_
 obtain⟨w,_,rfl⟩:=List.mem_map.1 hs
 exact we_ w
attribute [local go_sem] al_ aq_ dx_ ep_ br_ in
theorem adi_ (s:Str) (hs:s.length≤281474976710656):ACall En 90 [.s s] [] [.sl false (sR (prL s)),.b (prR s)] []:=by
 have hL:=e1_ s
 have hM:=hb_ s
 have hX:prL s=if prR s then(bt_ s).map f0_ else []:=rfl
 have hP:prR s=(lj_ (bt_ s)&&pok ((bt_ s).map f0_)):=rfl
 have T:=k3_ s hs
 generalize bt_ s=ls at *
 have hm:=jo_ ls
 have hst:∀k,k<ls.length→((ls.take (k+1)).map f0_)=((ls.take k).map f0_)++[(ci_ (ls.getD k [])).getD S0]:=fun k h=>by
  rw[List.take_add_one,T6_ h,T8_,T6_ h,List.map_append];rfl
 refine aa_ [] Tryz.func90 Tryz.ntmps90 fun C=>?_
 refine .seq (.rgo [] ?_ ?_)
 ·(first|trivial|(simp;done)|(simp only[T3_]at h13;and_intros<;>first|omega|(simp;done)|(simp;omega)))
 refine .seq (.rgo [] ?_ ?_)
 ·(first|trivial|(simp;done)|(simp only[T3_]at h13;and_intros<;>first|omega|(simp;done)|(simp;omega)))
 refine .seqJ (fun u:Unit=>⟨[.no,.no,.no,.no,.sl false (sR (ls.map f0_)),.no,.no,.no,.no,.no,.no,.no,.no,.no,.no,.no,.no,.no,.no,.no,.no,.no,.no,.no,.no,.no,.no,.no,.no,.no,.no,.no,.no],ak_ [],us []⟩) (fun u:Unit=>lj_ ls=true) ?_ (fun u hJ=>?_)
 ·refine .seq (.rgo [ab_ T] ?_ ?_)
  ·(first|trivial|(simp;done)|(simp only[T3_]at h13;and_intros<;>first|omega|(simp;done)|(simp;omega)))
  refine .block (.loopK (fun k:Nat=>⟨[.no,.no,.no,.no,.ow 80 11 0 k,.no,.no,.no,.no,.no,.sl false (an_ ls),.i .i64 ls.length,.i .i64 k,.no,.no,.no,.no,.no,.no,.no,.no,.no,.no,.no,.no,.no,.no,.no,.no,.no,.no,.no,.no],ak_ [(80,⟨58,11,sR ((ls.take k).map f0_)⟩)],us [80]⟩) (fun k:Nat=>k≤ls.length∧lj_ (ls.take k)=true) (fun k:Nat=>ls.length - k) (0) ?_ ?_ (fun k hI=>?_))
  ·exact⟨Nat.zero_le _,rfl⟩
  ·refine Can.trans (Can.ownSlot 4 80 58 11 (by simp only[go_sem,seval]<;>rfl) (by simp only[go_sem,seval]) (by simp only[go_sem,seval]<;>rfl)) ?_
   refine Can.wk ?_ ?_
   ·first|trivial|((try simp))
   ·first|trivial|((try simp[sR]))
  refine .seq (.rgo [] ?_ ?_)
  ·(first|trivial|(simp;done)|(simp only[T3_]at h13;and_intros<;>first|omega|(simp;done)|(simp;omega)))
  refine .seq (.cB (fun h13=>?_) (fun h13=>?_))
  ·refine .skip (.seq (.block (.seq (.rgo [] ?_ ?_ (h:=by simp only[go_sem,seval,aw_ (show k<ls.length by simpa using h13)];rfl)))))
   ·(first|trivial|(simp;done)|(simp only[T3_]at h13;and_intros<;>first|omega|(simp;done)|(simp;omega)))
   refine .seq (.rgo [a4_ (k<ls.length) (fun h=>r0_ (ls.getD k []) (by have:=hM _ (am_ (d:=[]) h);omega))] ?_ ?_)
   ·(first|trivial|(simp;done)|(simp only[T3_]at h13;and_intros<;>first|omega|(simp;done)|(simp;omega)))
   refine .seq (.seq (.rgo [] ?_ ?_))
   ·(first|trivial|(simp;done)|(simp only[T3_]at h13;and_intros<;>first|omega|(simp;done)|(simp;omega)))
   refine .cB (fun h22=>?_) (fun h22=>?_)
   ·refine .seq (.rgo [] ?_ ?_)
    ·(first|trivial|(simp;done)|(simp only[T3_]at h13;and_intros<;>first|omega|(simp;done)|(simp;omega)))
    refine .ret ⟨.inr rfl,?_⟩
    exact Out.plL (by simp only[Tryz.results90];rfl) (by simp only[ag_,go_sem,seval]<;>(have e:prR s=false:=(by rw[hP,ab8_ (k:=k) (by simpa using h13) (by simpa using h22)];rfl);rw[hX,e];simp[sR,ler]))
   ·refine .skip (.rgo [] ?_ ?_)
    ·(first|trivial|(simp;done)|(simp only[T3_]at h13;and_intros<;>first|omega|(simp;done)|(simp;omega)))
    refine .rgo [] ?_ ?_
    ·(first|trivial|(simp;done)|(simp only[T3_]at h13;and_intros<;>first|omega|(simp;done)|(simp;omega)))
    refine Exists.intro (k+1) ⟨?_,?_,?_⟩
    ·simp at h13;refine⟨by omega,?_⟩;rw[um_ h13,hI.2];simpa using h22
    ·simp at h13;omega
    refine Can.trans (Can.sX 36 80) ?_
    refine Can.wk ?_ ?_
    ·first|trivial|(rw[aj_ (by simp at h13;omega) (by simp at h13;omega)];(try simp))
    ·first|trivial|(rw[hst k (by simpa using h13)];simp[sR,br_])
  ·refine .exit ?_
   refine Exists.intro (()) ⟨?_,?_⟩
   ·simp only[T4_]at h13;have e:=hI.2;rw[T1_ (by omega)]at e;exact e
   refine Can.trans (Can.frz 80 (by simp only[go_sem,seval]<;>rfl) (by simp only[go_sem,seval]) (by simp only[go_sem,seval]<;>rfl) (by simp only[go_sem,seval]<;>rfl)) ?_
   refine Can.wh ?_;first|trivial|(simp only[T4_]at h13;(obtain rfl:k=ls.length:=(by omega));simp[T1_,ep_,leV,af_])
 refine .seq (.seq (.rgo [ab_ (qc_ (ls.map f0_) hm (by simp;omega))] ?_ ?_))
 ·(first|trivial|(simp;done)|(simp only[T3_]at h13;and_intros<;>first|omega|(simp;done)|(simp;omega)))
 refine .cB (fun h30=>?_) (fun h30=>?_)
 ·refine .seq (.rgo [] ?_ ?_)
  ·(first|trivial|(simp;done)|(simp only[T3_]at h13;and_intros<;>first|omega|(simp;done)|(simp;omega)))
  refine .ret ⟨.inr rfl,?_⟩
  exact Out.plL (by simp only[Tryz.results90];rfl) (by simp only[ag_,go_sem,seval]<;>(have e:prR s=false:=(by rw[hP,hJ,show pok (ls.map f0_)=false by simpa using h30];rfl);rw[hX,e];simp[sR,ler]))
 ·refine .skip (.seq (.rgo [ab_ (anf_ (ls.map f0_) (by simp;omega))] ?_ ?_))
  ·(first|trivial|(simp;done)|(simp only[T3_]at h13;and_intros<;>first|omega|(simp;done)|(simp;omega)))
  refine .ret ⟨.inr rfl,?_⟩
  exact Out.plL (by simp only[Tryz.results90];rfl) (by simp only[ag_,go_sem,seval]<;>(have e:prR s=true:=(by rw[hP,hJ,show pok (ls.map f0_)=true by simpa using h30];rfl);rw[hX,e];simp[af_]))
/-! books and programs, plainly -/
end
end Go.Proofs.YthjccajoadjicaaGreatDoor
