/- Texts and their lines: the reference's TextOk, TextLines. Conditions: none. -/
import Derived.Test.YthjccajoadjicaaGreatDoorMm
set_option linter.unusedVariables false
set_option linter.unusedSimpArgs false
set_option maxRecDepth 100000
set_option maxHeartbeats 8000000
namespace Go.Proofs.YthjccajoadjicaaGreatDoor
section
def CutI (s:Str) (i:Nat) (p:Nat × List Str):Prop:=
 p.1≤i∧p.2.length≤i∧(i≤s.length→p.2++spl (s.drop p.1)=spl s∧(10:UInt8) ∉ (s.drop p.1).take (i - p.1))∧(s.length<i→p.2=spl s)
theorem aqd_ (s:Str):CutI s 0 (0,[]):=⟨Nat.le_refl _,Nat.le_refl _,fun _=>⟨rfl,by simp⟩,fun h=>absurd h (by omega)⟩
theorem av5_ {s:Str} {a i:Nat} (ha:a≤i) (hi:i<s.length):s.drop a=(s.drop a).take (i - a)++s.getD i 0::s.drop (i+1):=by
 conv=>lhs;rw[←List.take_append_drop (i - a) (s.drop a)]
 rw[List.drop_drop,show a+(i - a)=i by omega,List.drop_eq_getElem_cons hi,List.getD_eq_getElem?_getD,List.getElem?_eq_getElem hi];rfl
theorem a0g_ {s:Str} {i:Nat} {p:Nat × List Str} (h:CutI s i p) (hi:i≤s.length) (hc:i=s.length∨s.getD i 0=10):CutI s (i+1) (i+1,p.2++[(s.drop p.1).take (i - p.1)]):=by
 obtain⟨h1,h2,h3, -⟩:=h
 obtain⟨h3,h4⟩:=h3 hi
 refine⟨Nat.le_refl _,by simp;omega,fun hl=>?_,fun hl=>?_⟩
 ·have h10:s.getD i 0=10:=by
   rcases hc with hc|hc
   ·omega
   exact hc
  refine⟨?_,by simp⟩
  rw[av5_ h1 (by omega),h10,qm_ h4]at h3
  dsimp only
  rw[List.append_assoc];exact h3
 have hil:i=s.length:=by omega
 have e:(s.drop p.1).take (i - p.1)=s.drop p.1:=List.take_of_length_le (by rw[List.length_drop];omega)
 rw[e]at h4 ⊢
 rw[mo_ h4]at h3
 exact h3
theorem a0d_ {s:Str} {i:Nat} {p:Nat × List Str} (h:CutI s i p) (hi:i<s.length) (hc:s.getD i 0≠10):CutI s (i+1) p:=by
 obtain⟨h1,h2,h3, -⟩:=h
 obtain⟨h3,h4⟩:=h3 (by omega)
 refine⟨by omega,by omega,fun _=>⟨h3,?_⟩,fun hl=>by omega⟩
 rw[show i+1 - p.1=(i - p.1)+1 by omega,List.take_add_one,List.getElem?_drop,show p.1+(i - p.1)=i by omega,List.getElem?_eq_getElem hi]
 rw[List.getD_eq_getElem?_getD,List.getElem?_eq_getElem hi]at hc
 simp only[Option.toList_some,List.mem_append,List.mem_singleton,not_or]
 exact⟨h4,fun e=>hc e.symm⟩
theorem awe_ {s:Str} {i:Nat} {p:Nat × List Str} (h:CutI s i p) (hi:¬i≤s.length):p.2=spl s:=h.2.2.2 (by omega)
theorem abc_ {c:UInt8}:((c.toNat:Int)=10)↔c=10:=⟨fun h=>by apply UInt8.toNat_inj.1;show _=10;omega,fun h=>by rw[h];rfl⟩
theorem nh_ (s:Str) (hs:s.length≤281474976710656):ACall En 52 [.s s] [] [.b (tOk s)] []:=by
 refine aa_ [] Tryz.func52 Tryz.ntmps52 fun C=>?_
 refine .seq (.rg [] ?_)
 refine .seq (.rg [] ?_)
 refine .seq (.seq (.rg [] ?_))
 refine .block (.loopK (fun q:Nat × Int=>⟨[.s s,.no,.no,.i .i64 q.2,.i .i64 q.1,.no,.no,.no,.no,.no,.no,.no,.no,.no,.no,.no,.no,.no,.no,.no,.no,.no,.no,.no,.no,.no,.no,.no,.no,.no,.no,.no,.no,.no,.no,.no,.no,.no],ae_ [],us []⟩) (fun q:Nat × Int=>q.1≤s.length∧0≤q.2∧q.2≤120∧gy_ (s.drop q.1) q.2=gy_ s 0) (fun q:Nat × Int=>s.length - q.1) ((0,0)) ?_ ?_ (fun q hI=>?_))
 ·exact⟨by simp,by decide,by decide,rfl⟩
 ·refine Can.wh ?_;trivial
 refine .seq (.seq (.rg [] ?_))
 refine .cB (fun h8=>?_) fun h8=>?_
 ·refine .skip (.seq (.block (.seq (.seq (.rgo [] ?_ ?_)))))
  ·simp only[decide_eq_true_eq]at h8;exact⟨⟨⟨by omega,fun h=>⟨h,by omega,by omega⟩⟩,fun h=>⟨h,by omega,by omega⟩⟩,fun h=>⟨h,fun h2=>by rw[h,h2];rfl⟩⟩
  refine .cB (fun h26=>?_) fun h26=>?_
  ·refine .seq (.rg [] ?_)
   refine .ret ⟨.inr rfl,Out.pP Tryz.results52 ?_⟩;simp only[decide_eq_true_eq]at h8;rw[Bool.and_eq_true]at h26;have hc:=bne_iff_ne.1 h26.1;have e:=vw_ (show q.1<s.length by omega) (w:=q.2) hc;rw[h26.2]at e;unfold tOk;rw[←hI.2.2.2,e];rfl
  refine .skip (.seq (.rg [] ?_))
  refine .seqJ (fun p:Int=>⟨[.s s,.no,.no,.i .i64 p,.i .i64 q.1,.no,.no,.no,.no,.no,.no,.no,.no,.no,.no,.no,.no,.no,.no,.no,.no,.no,.no,.no,.no,.no,.no,.no,.no,.no,.no,.no,.no,.no,.no,.no,.no,.no],ae_ [],us []⟩) (fun p:Int=>p=if ((s.getD q.1 0).toNat:Int)=10 then 0 else q.2+1) ?_ (fun p hJ=>?_)
  ·refine .seq (.rgo [] ?_ ?_)
   ·simp only[decide_eq_true_eq]at h8;omega
   refine .cB (fun h32=>?_) fun h32=>?_
   ·refine .rg [] ?_
    refine⟨0,?_,?_⟩
    ·(rw[if_pos (beq_iff_eq.1 h32)])
    refine Can.wh ?_;trivial
   refine .skip ?_
   refine⟨q.2+1,?_,?_⟩
   ·(rw[if_neg (by rw[beq_eq_false_iff_ne]at h32;exact h32)])
   refine Can.wh ?_;exact ac_ (by omega) (by omega)
  refine .seq (.rg [] ?_)
  refine .cB (fun h34=>?_) fun h34=>?_
  ·refine .seq (.rg [] ?_)
   refine .ret ⟨.inr rfl,Out.pP Tryz.results52 ?_⟩;simp only[decide_eq_true_eq]at h8 h34;by_cases hc:((s.getD q.1 0).toNat:Int)=10;(rw[if_pos hc]at hJ;omega);(have e:=vw_ (show q.1<s.length by omega) (w:=q.2) hc;rw[if_neg hc]at hJ;rw[decide_eq_true (show q.2+1 > 120 by omega)]at e;unfold tOk;rw[←hI.2.2.2,e];simp)
  refine .skip (.rg [] ?_)
  refine Exists.intro ((q.1+1,p)) ⟨?_,?_,?_⟩
  ·simp only[decide_eq_true_eq]at h8;simp only[decide_eq_false_iff_not]at h34;have e:=aa7_ (show q.1<s.length by omega) q.2;by_cases hc:((s.getD q.1 0).toNat:Int)=10;(rw[if_pos hc]at e hJ;exact⟨by dsimp only;omega,by dsimp only;omega,by dsimp only;omega,by dsimp only;rw[hJ,←e];exact hI.2.2.2⟩);(have e:=vw_ (show q.1<s.length by omega) (w:=q.2) hc;rw[if_neg hc]at hJ;have h26':(decide (((s.getD q.1 0).toNat:Int)<32)||decide (((s.getD q.1 0).toNat:Int) > 126))=false:=(by rw[show(((s.getD q.1 0).toNat:Int) != 10)=true from bne_iff_ne.2 hc,Bool.true_and]at h26;exact h26);rw[h26',decide_eq_false (show ¬q.2+1 > 120 by omega)]at e;exact⟨by dsimp only;omega,by dsimp only;omega,by dsimp only;omega,by dsimp only;rw[hJ,←hI.2.2.2,e];rfl⟩)
  ·simp at h8;dsimp only;omega
  refine Can.wh ?_;rw[ac_ (by simp at h8;omega) (by simp at h8;omega)];simp
 refine .exit (.seq (.rg [] ?_))
 refine .ret ⟨.inr rfl,Out.pP Tryz.results52 ?_⟩;simp only[decide_eq_false_iff_not]at h8;have e:=hI.2.2.2;rw[List.drop_of_length_le (by omega)]at e;unfold tOk;rw[←e];simp only[gy_,Bool.true_and];rw[show decide ((s.length:Int)≤4000)=decide (s.length≤4000)from decide_eq_decide.2 (by omega)]
attribute [local go_sem] af_ ah_ in
theorem pi_ (s:Str) (hs:s.length≤4000):ACall En 9 [.s s,.i .u8 10] [] [.sl false (ai_ (spl s))] []:=by
 refine aa_ [] Tryz.func9 Tryz.ntmps9 fun C=>?_
 refine .seq (.rg [] ?_)
 refine .seq (.rg [] ?_)
 refine .seq (.rg [] ?_)
 refine .seq (.seq (.rg [] ?_))
 refine .block (.loopK (fun q:Nat × Nat × List Str=>⟨[.s s,.i .u8 10,.no,.no,.no,.ow 18 1 0 q.2.2.length,.i .i64 q.2.1,.i .i64 q.1,.no,.no,.no,.no,.no,.no,.no,.no,.no,.no,.no,.no,.no,.no,.no,.no,.no,.no,.no,.no,.no,.no,.no,.no,.no,.no,.no,.no],ae_ [(18,⟨9,1,ai_ q.2.2⟩)],us [18]⟩) (fun q:Nat × Nat × List Str=>q.1≤s.length+1∧CutI s q.1 q.2) (fun q:Nat × Nat × List Str=>s.length+1 - q.1) ((0,0,[])) ?_ ?_ (fun q hI=>?_))
 ·exact⟨by simp,aqd_ s⟩
 ·refine Can.trans (Can.ownSlot 5 18 9 1 (by simp only[go_sem,seval]<;>rfl) (by simp only[go_sem,seval]) (by simp only[go_sem,seval]<;>rfl)) ?_
  refine Can.wk ?_ ?_
  ·trivial
  (try simp[ai_])
 refine .seq (.seq (.rg [] ?_))
 refine .cB (fun h12=>?_) fun h12=>?_
 ·refine .skip (.seqJ (fun p:Nat × List Str=>⟨[.s s,.i .u8 10,.no,.no,.no,.ow 18 1 0 p.2.length,.i .i64 p.1,.i .i64 q.1,.no,.no,.no,.no,.no,.no,.no,.no,.no,.no,.no,.no,.no,.no,.no,.no,.no,.no,.no,.no,.no,.no,.no,.no,.no,.no,.no,.no],ae_ [(18,⟨9,1,ai_ p.2⟩)],us [18]⟩) (fun p:Nat × List Str=>CutI s (q.1+1) p) ?_ (fun p hJ=>?_))
  ·refine .block (.seq (.rgo [] ?_ ?_))
   ·simp only[decide_eq_true_eq]at h12;exact⟨fun h=>⟨h,by omega,by simp only[Bool.not_eq_true',beq_eq_false_iff_ne]at h;omega⟩,fun h=>by rw[h];rfl⟩
   refine .cB (fun h25=>?_) fun h25=>?_
   ·refine .seq (.rgo [] ?_ ?_)
    ·simp only[decide_eq_true_eq]at h12;have h1:=hI.2.1;have h2:=hI.2.2.1;refine⟨⟨by omega,by omega,by omega,by omega,by simp⟩,by simp,by simp,by omega⟩
    refine .rg [] ?_
    refine Exists.intro ((q.1+1,q.2.2++[(s.drop q.2.1).take (q.1 - q.2.1)])) ⟨?_,?_⟩
    ·simp only[decide_eq_true_eq]at h12;first|(refine a0g_ hI.2 (by omega) ?_;simp only[Bool.or_eq_true,beq_iff_eq]at h25;rcases h25 with h|h;exact .inl (by omega);exact .inr (abc_.1 h))|(simp only[Bool.or_eq_false_iff,beq_eq_false_iff_ne]at h25;exact a0d_ hI.2 (by omega) (fun e=>h25.2 (abc_.2 e)))
    refine Can.trans (Can.sX 42 18) ?_
    refine Can.wk ?_ ?_
    ·(refine⟨by simp,?_⟩;simp only[decide_eq_true_eq]at h12;exact jz_ (q.1+1) (by omega))
    (rw[List.drop_take,fr_];rfl)
   refine .skip ?_
   refine Exists.intro ((q.2.1,q.2.2)) ⟨?_,?_⟩
   ·simp only[decide_eq_true_eq]at h12;first|(refine a0g_ hI.2 (by omega) ?_;simp only[Bool.or_eq_true,beq_iff_eq]at h25;rcases h25 with h|h;exact .inl (by omega);exact .inr (abc_.1 h))|(simp only[Bool.or_eq_false_iff,beq_eq_false_iff_ne]at h25;exact a0d_ hI.2 (by omega) (fun e=>h25.2 (abc_.2 e)))
   refine Can.wk ?_ ?_
   ·trivial
   trivial
  refine .rg [] ?_
  refine Exists.intro ((q.1+1,p.1,p.2)) ⟨?_,?_,?_⟩
  ·simp only[decide_eq_true_eq]at h12;exact⟨by dsimp only;omega,hJ⟩
  ·simp at h12;dsimp only;omega
  refine Can.wk ?_ ?_
  ·rw[ac_ (by simp at h12;omega) (by simp at h12;omega)];(try simp)
  trivial
 refine .exit (.seq (.rg [] ?_))
 refine .fX 18 ?_
 refine .ret ⟨.inr rfl,Out.pQ Tryz.results9 ?_⟩;simp only[decide_eq_false_iff_not]at h12;have e:=awe_ hI.2 (by omega);rw[←e];simp[peel,leV,ad_,af_,List.take_of_length_le]
attribute [local go_sem] ah_ in
theorem k9_ (s:Str) (hs:s.length≤281474976710656):ACall En 30 [.s s] [] [.sl false (ai_ (bo_ s))] []:=by
 refine aa_ [] Tryz.func30 Tryz.ntmps30 fun C=>?_
 refine .seq (.rg [] ?_)
 refine .seq (.seq (.rg [ab_ (nh_ s hs)] ?_))
 refine .cB (fun h5=>?_) fun h5=>?_
 ·refine .seq (.rg [] ?_)
  refine .ret ⟨.inr rfl,Out.pQ Tryz.results30 ?_⟩;simp at h5;simp[bo_,h5,ai_,ler]
 refine .skip (.seq (.rgo [a0_ (tOk s=true) (fun h=>pi_ s (nc_ h))] ?_ ?_))
 ·((simpa using h5))
 refine .ret ⟨.inr rfl,Out.pQ Tryz.results30 ?_⟩;simp at h5;simp[bo_,h5,ad_,leV]
end
section
theorem aft_ {α:Type} {d:α} {a b:List α} {k:Nat} (ha:k<a.length) (hb:k<b.length) (h:a.take k=b.take k) (e:a.getD k d=b.getD k d):a.take (k+1)=b.take (k+1):=by
 rw[List.take_add_one (l:=a),List.take_add_one (l:=b),h,List.getElem?_eq_getElem ha,List.getElem?_eq_getElem hb]
 rw[List.getD_eq_getElem?_getD,List.getD_eq_getElem?_getD,List.getElem?_eq_getElem ha,List.getElem?_eq_getElem hb]at e
 rw[show a[k]=b[k] by simpa using e]
end
section
theorem any_:ACall En 138 [.sl false []] [] [.ow 0 1 0 0] [⟨3,1,[]⟩]:=by
 refine aa_ [17] Tryz.func138 Tryz.ntmps138 fun C=>?_
 refine .seq (.rg [] ?_)
 refine .seq (.seq (.rgS [4] [nilO En] ?_))
 refine .condQ (by simp only[go_sem,seval]<;>rfl) (by simp only[go_sem,seval]) ?_ ?_
 ·refine .seq (.rg [] ?_)
  refine .can (Can.ownSlot 2 17 3 1 (by simp only[go_sem,seval]<;>rfl) (by simp only[go_sem,seval]) (by simp only[go_sem,seval]<;>rfl)) ?_
  refine .ret ⟨.inr rfl,Out.mP Tryz.results138 ?_ ?_⟩
  ·trivial
  trivial
 refine .skip (.seq (.rg [] ?_))
 refine .ret ⟨.inr rfl,Out.mP Tryz.results138 ?_ ?_⟩
 ·trivial
 trivial
attribute [local go_sem] al_ a2_ eo_ bg_ bu_ V.pure in
theorem an6_ (e:Int) (r:List Int) (hl:r.length<1099511627776):ACall En 138 [.sl false (inR (e::r))] [] [.ow 0 1 0 (r.length+1)] [⟨3,1,inR (e::r)⟩]:=by
 refine aa_ [17] Tryz.func138 Tryz.ntmps138 fun C=>?_
 refine .seq (.rg [] ?_)
 refine .seq (.seq (.rgS [4] [nilO En] ?_))
 refine .cB (fun h4=>?_) fun h4=>?_
 ·exact absurd h4 (by simp)
 refine .skip (.seq (.rgo [] ?_ ?_))
 ·have:=a2_ r;simp[eo_,ae7_];omega
 refine .ret ⟨.inr rfl,Out.mP Tryz.results138 ?_ ?_⟩
 ·trivial
 trivial
theorem aug_ (l:List Int) (hl:l.length<1099511627776):ACall En 138 [.sl false (inR l)] [] [.ow 0 1 0 l.length] [⟨3,1,inR l⟩]:=by
 cases l with
 |nil=>simp only[inR];exact any_
 |cons e r=>exact an6_ e r (by simp at hl;omega)
attribute [local go_sem] al_ a2_ in
theorem al8_ (l:List Int) (hl:l.length<1099511627776):ACall En 137 [.ow 0 1 0 l.length] [⟨3,1,inR l⟩] [.ow 0 1 0 l.length] [⟨3,1,inR l⟩]:=by
 refine aa_ [0] Tryz.func137 Tryz.ntmps137 fun C=>?_
 refine .seq (.rg [] ?_)
 refine .seq (.rg [] ?_)
 refine .ret ⟨.inr rfl,Out.mP Tryz.results137 ?_ ?_⟩
 ·simp
 trivial
attribute [local go_sem] al_ a2_ aw_ a5_ b7_ in
theorem ae4_ (l:List Int) (hl:l.length<1099511627776):ACall En 75 [.sl false (inR l)] [] [.ow 0 1 0 l.length] [⟨3,1,inR l⟩]:=by
 refine aa_ [14] Tryz.func75 Tryz.ntmps75 fun C=>?_
 refine .seq (.rg [] ?_)
 refine .seq (.rg [at_ [] [14] (aug_ l hl),at_ [14] [] (al8_ l hl)] ?_)
 refine .ret ⟨.inr rfl,Out.mP Tryz.results75 ?_ ?_⟩
 ·trivial
 trivial
theorem ata_ (l:List Int) (hl:l.length<1099511627776):ACall En 75 [.sl false (inR l)] [] [.sl false (inR l)] []:=
 (ae4_ l hl).frz1 (by simp[er_,frz,a2_,List.take_of_length_le])
structure Pg where
 line:Str
 good:Bool
 text:Str
 frm:List Int
deriving DecidableEq
def Pg0:Pg:=⟨[],false,[],[]⟩
def pgC (p:Pg):List V:=[.s p.line,.b p.good,.s p.text,.sl false (inR p.frm)]
def pgR (l:List Pg):List (List V):=l.map pgC
theorem bl_ (l:List Pg):(pgR l).length=l.length:=by simp[pgR]
theorem a3_:∀l:List Pg,bg_ (pgR l)=true
 |[]=>rfl
 |p::l=>by
  show bg_ (pgC p::pgR l)=true
  simp only[bg_,pgC,bu_,V.pure,al_,a3_ l,Bool.and_true]
theorem up_ (p:Pg):bu_ (pgC p)=true:=by simp only[pgC,bu_,V.pure,al_,Bool.and_true]
theorem c4_ {l:List Pg} {k:Nat} (h:k<l.length):(pgR l).getD k []=pgC (l.getD k Pg0):=by
 simp[pgR,List.getD_eq_getElem?_getD,List.getElem?_eq_getElem h]
theorem cm_ (p:Pg):pgC p=[.s p.line,.b p.good,.s p.text,.sl false (inR p.frm)]:=rfl
def ei_ (s:Str):Bool:=tOk s&&!ps_ s
theorem zm_ (s:Str):ps_ s=decide (1<(spl s).length):=by
 unfold ps_
 by_cases h:(10:UInt8)∈s
 ·obtain⟨a,b,rfl,ha⟩:=List.eq_append_cons_of_mem h
  rw[qm_ ha]
  have:=List.length_pos_iff.2 (ack_ b)
  simp;omega
 rw[mo_ h];simpa using h
def dl_ (s:Str):Pg:=if ei_ s then(match ch_ s with|none=>⟨s,false,[],[]⟩|some x=>⟨s,true,emT x,emF x⟩)else Pg0
theorem vf_ (s:Str) (hs:s.length≤281474976710656):ACall En 72 [.s s] [] [.b (ei_ s)] []:=by
 refine aa_ [] Tryz.func72 Tryz.ntmps72 fun C=>?_
 refine .seq (.rg [] ?_)
 refine .seq (.rg [ab_ (yr_ s hs),ab_ (azu_ s)] ?_)
 refine .ret ⟨.inr rfl,Out.pP Tryz.results72 ?_⟩;rfl
end
section
theorem vn_ (s:Str):d6_ ((ch_ s).getD S0)=true:=by
 cases h:ch_ s with
 |none=>decide
 |some x=>
  by_cases hc:(az_ s).isSome=true∧sok (rdS (be_ s))=true∧ec_ (rdS (be_ s))=s
  ·rw[ul_ hc.1 hc.2.1 hc.2.2]at h
   cases h;exact aqr_ (mz_ s).1
  rw[uw_ hc]at h;cases h
theorem adw_ {s:Str} (h:(ch_ s).isSome=true):sok ((ch_ s).getD S0)=true:=by
 cases hx:ch_ s with
 |none=>rw[hx]at h;cases h
 |some x=>exact(r4_.1 hx).1
theorem aku_ {s:Str} (h:ei_ s=false):dl_ s=Pg0:=by unfold dl_;rw[h];rfl
theorem ws_ {s:Str} (h:ei_ s=true) (h2:(ch_ s).isSome=false):dl_ s=⟨s,false,[],[]⟩:=by
 unfold dl_;rw[h]
 cases hx:ch_ s with
 |none=>rfl
 |some x=>rw[hx]at h2;cases h2
theorem ab8_ {s:Str} (h:ei_ s=true) (h2:(ch_ s).isSome=true):dl_ s=⟨s,true,emT ((ch_ s).getD S0),emF ((ch_ s).getD S0)⟩:=by
 unfold dl_;rw[h]
 cases hx:ch_ s with
 |none=>rw[hx]at h2;cases h2
 |some x=>rfl
theorem a3y_ {s:Sl} (h:sok s=true):(emF s).length=(bw (bof s)).length:=by
 have q:=ig_ (de_ h)
 unfold emF;rw[if_pos h,←abg_ (de_ h),hn_]
 rw[←q.2,List.length_map]
theorem emFL {s:Sl} (h:sok s=true):(emF s).length<1000000:=by rw[a3y_ h];have:=(nu_ (iy_ (de_ h))).1;omega
theorem x7_ (s:Str):(!tOk s||decide (((spl s).length:Int) > 1))=!ei_ s:=by
 unfold ei_;rw[zm_,Bool.not_and,Bool.not_not];congr 1;exact decide_eq_decide.2 (by omega)
attribute [local go_sem] a9_ al_ cm_ in
theorem rh_ (s:Str) (hs:s.length≤281474976710656):ACall En 35 [.s s] [] [.ag (pgC (dl_ s))] []:=by
 have X1:=vn_ s
 have X2:=@adw_ s
 have P1:=@aku_ s
 have P2:=@ws_ s
 have P3:=@ab8_ s
 have R:=sr_ s hs
 generalize (ch_ s).getD S0=x at *
 generalize (ch_ s).isSome=ok at *
 refine aa_ [] Tryz.func35 Tryz.ntmps35 fun C=>?_
 refine .seq (.rg [] ?_)
 refine .seq (.seq (.rg [ab_ (vf_ s hs)] ?_))
 refine .cB (fun h9=>?_) fun h9=>?_
 ·refine .seq (.rg [] ?_)
  refine .ret ⟨.inr rfl,Out.pQ Tryz.results35 ?_⟩;rw[P1 (by simpa using h9)];simp[Pg0,les,leV,ler,inR]
 refine .skip (.seq (.rg [ab_ R] ?_))
 refine .seq (.seq (.rg [] ?_))
 refine .cB (fun h17=>?_) fun h17=>?_
 ·refine .seq (.rg [] ?_)
  refine .ret ⟨.inr rfl,Out.pQ Tryz.results35 ?_⟩;rw[P2 (by simpa using h9) (by simpa using h17)];simp[les,leV,ler,inR]
 refine .skip (.seq (.rgo [a0_ (ok=true) (fun h=>a1e_ x (X2 h) X1)] ?_ ?_))
 ·((simpa using h17))
 refine .seq (.rgo [a0_ (ok=true) (fun h=>ata_ (emF x) (by have:=emFL (X2 h);omega))] ?_ ?_)
 ·(exact⟨by simpa using h17,rfl⟩)
 refine .ret ⟨.inr rfl,Out.pQ Tryz.results35 ?_⟩;rw[P3 (by simpa using h9) (by simpa using h17)];simp[les,leV,ler,ad_]
attribute [local go_sem] a9_ al_ cm_ af_ ah_ in
theorem ne_ (s:Str) (hs:s.length≤281474976710656):ACall En 31 [.s s] [] [.ag (pgC (dl_ s))] []:=by
 have X1:=vn_ s
 have X2:=@adw_ s
 have P1:=@aku_ s
 have P2:=@ws_ s
 have P3:=@ab8_ s
 have R:=s5_ s hs
 have hn:=zm_ s
 have hI:ei_ s=(tOk s&&!ps_ s):=rfl
 generalize (ch_ s).getD S0=x at *
 generalize (ch_ s).isSome=ok at *
 refine aa_ [] Tryz.func31 Tryz.ntmps31 fun C=>?_
 refine .seq (.rg [] ?_)
 refine .seq (.seq (.rg [ab_ (nh_ s hs),a0_ (tOk s=true) (fun h=>pi_ s (nc_ h))] ?_))
 refine .cB (fun h15=>?_) fun h15=>?_
 ·refine .seq (.rg [] ?_)
  refine .ret ⟨.inr rfl,Out.pQ Tryz.results31 ?_⟩;rw[x7_]at h15;rw[P1 (by simpa using h15)];simp[Pg0,les,leV,ler,inR]
 refine .skip (.seq (.rg [ab_ R] ?_))
 refine .seq (.seq (.rg [] ?_))
 refine .cB (fun h23=>?_) fun h23=>?_
 ·refine .seq (.rg [] ?_)
  refine .ret ⟨.inr rfl,Out.pQ Tryz.results31 ?_⟩;rw[x7_]at h15;rw[P2 (by simpa using h15) (by simpa using h23)];simp[les,leV,ler,inR]
 refine .skip (.seq (.rg [ab_ (afc_ x X1)] ?_))
 refine .seq (.rg [] ?_)
 refine .ret ⟨.inr rfl,Out.pQ Tryz.results31 ?_⟩;rw[x7_]at h15;rw[P3 (by simpa using h15) (by simpa using h23)];simp[les,leV,ler,ad_]
theorem t6_ {a b:Pg} (h:(((!(a.line==b.line)||!(a.good==b.good))||!(a.text==b.text))||((a.frm.length:Int) != (b.frm.length:Int)))=false):a.line=b.line∧a.good=b.good∧a.text=b.text∧a.frm.length=b.frm.length:=by
 simp only[Bool.or_eq_false_iff,Bool.not_eq_false',beq_iff_eq,bne_eq_false_iff_eq]at h
 exact⟨h.1.1.1,h.1.1.2,h.1.2,by omega⟩
end
section
end
section
def torn (b:Str) (p:Int) (l:List Str) (s:Str):Str:=
 s.take (ay_ b p s.length).toNat++ofI b (p+1) l++s.drop ((ay_ b p s.length).toNat+(ay_ b (p+1+1) 2).toNat)
theorem aie_ {b:Str} {p:Int} {s:Str} (h0:((s.length:Int)==0)=false) (hp:0≤p) (hp2:p<1000000000) (hs:s.length≤1000000) :
  0≤ay_ b p s.length∧ay_ b p s.length≤s.length∧IntKind.i64.wrap (ay_ b p s.length+ay_ b (p+1+1) 2)=ay_ b p s.length+ay_ b (p+1+1) 2∧0≤ay_ b p s.length+ay_ b (p+1+1) 2∧ay_ b p s.length+ay_ b (p+1+1) 2≤s.length∧(ay_ b p s.length+ay_ b (p+1+1) 2).toNat=(ay_ b p s.length).toNat+(ay_ b (p+1+1) 2).toNat∧(s.take (ay_ b p s.length).toNat).length≤s.length:=by
 rw[beq_eq_false_iff_ne]at h0
 have h1:=cl_ b (p:=p) (n:=s.length) hp (by omega) (by omega)
 have h2:=cl_ b (p:=p+1+1) (n:=2) (by omega) (by omega) (by decide)
 refine⟨h1.1,by omega,ac_ (by omega) (by omega),by omega,by omega,by omega,by simp;omega⟩
theorem avt_ {b:Str} {p:Int} {l:List Str} {s:Str} (k:Nat) (hl:0<l.length) (h:∀w∈l,w.length≤k) (hp:0≤p) (hp2:p<1000000000):(torn b p l s).length≤s.length+k+s.length:=by
 have:=rd_ (b:=b) (p:=p+1) hl (by omega) (by omega) k h
 unfold torn
 simp only[List.length_append,List.length_take,List.length_drop];omega
end
section
attribute [local go_sem] a9_ ah_ in
theorem le_ (s:Sl) (hs:d6_ s=true):ACall En 22 [.ag (sC s)] [] [.s (ec_ s)] []:=by
 refine aa_ [] Tryz.func22 Tryz.ntmps22 fun C=>?_
 refine .seq (.rg [] ?_)
 refine .seq (.seq (.rg [ab_ (mw_ s hs)] ?_))
 refine .cB (fun h5=>?_) fun h5=>?_
 ·refine .seq (.rg [] ?_)
  refine .ret ⟨.inr rfl,Out.pP Tryz.results22 ?_⟩;simp at h5;simp[ec_,h5]
 refine .skip (.seq (.rgo [a0_ (sok s=true) (fun h=>km_ s (de_ h) hs),a0_ (sok s=true) (fun h=>ee_ (sw' s) (by have:=(o9_ (de_ h)).1;omega) (by have:=oz_ (de_ h);omega))] ?_ ?_))
 ·simp at h5;simp[h5]
 refine .ret ⟨.inr rfl,Out.pP Tryz.results22 ?_⟩;simp at h5;simp[ec_,h5]
theorem m2_ (s:Sl):(ec_ s).length≤120:=by
 unfold ec_;split
 ·rename_i h;have:=(l8_ h).1;omega
 simp
def u4_:List Str:=[[],[32],[49],[115,97,121,32],[40],[120],[63],[58]]
def dT5 (b:Str) (p:Int):Str × Int:=
 if ec_ (dl5 b p).1=[]then(ec_ (dl5 b p).1,(dl5 b p).2)
 else if ay_ b (dl5 b p).2 2=0 then(ec_ (dl5 b p).1,(dl5 b p).2+1)
 else(torn b ((dl5 b p).2+1) u4_ (ec_ (dl5 b p).1),(dl5 b p).2+1+1+1+1)
theorem a3z_ (b:Str) {p:Int} (hp:0≤p) (hp2:p<10000000):p≤(dT5 b p).2∧(dT5 b p).2≤p+800∧(dT5 b p).1.length≤300:=by
 obtain⟨h1,h2,h3⟩:=atv_ b (p:=p) hp (by omega)
 have k1:=m2_ (dl5 b p).1
 unfold dT5
 split
 ·exact⟨h1,by dsimp only;omega,by dsimp only;omega⟩
 split
 ·exact⟨by dsimp only;omega,by dsimp only;omega,by dsimp only;omega⟩
 have:=avt_ (b:=b) (p:=(dl5 b p).2+1) (l:=u4_) (s:=ec_ (dl5 b p).1) 6 (by decide) (by decide) (by omega) (by omega)
 exact⟨by dsimp only;omega,by dsimp only;omega,by dsimp only;omega⟩
attribute [local go_sem] aw_ a5_ a9_ in
theorem auk_ (b:Str) (p:Int) (hb:b.length≤2000) (hp:0≤p) (hp2:p<10000000) (h0:(((ec_ (dl5 b p).1).length:Int)==0)=false):ACall En 51 [.pt 0 2 0 0] [rdB b p] [.s (dT5 b p).1] [rdB b (dT5 b p).2]:=by
 obtain⟨h1,h2,h3⟩:=atv_ b (p:=p) hp (by omega)
 have k1:=m2_ (dl5 b p).1
 have T:=le_ (dl5 b p).1 h3
 have D:=afs_ b p hb hp (by omega)
 have hd:dT5 b p=if ec_ (dl5 b p).1=[]then(ec_ (dl5 b p).1,(dl5 b p).2)else if ay_ b (dl5 b p).2 2=0 then(ec_ (dl5 b p).1,(dl5 b p).2+1)else(torn b ((dl5 b p).2+1) u4_ (ec_ (dl5 b p).1),(dl5 b p).2+1+1+1+1):=rfl
 have hne:(((ec_ (dl5 b p).1).length:Int)==0)=decide (ec_ (dl5 b p).1=[]):=by rw[Bool.eq_iff_iff];simp
 generalize (dl5 b p).1=x at *
 generalize (dl5 b p).2=q at *
 generalize ec_ x=s at *
 refine aa_ [0] Tryz.func51 Tryz.ntmps51 fun C=>?_
 refine .seq (.rg [] ?_ (h:=by simp only[go_sem,seval,h0];rfl))
 refine .seq (.rg [at_ [0] [] D,ab_ T] ?_ (h:=by simp only[go_sem,seval,h0];rfl))
 refine .seq (.seq (.rg [at_ [0] [] (c5_ b q 2 hb (by omega) (by omega))] ?_ (h:=by simp only[go_sem,seval,h0];rfl)))
 refine .cB (fun h15=>?_) (fun h15=>?_) (hc:=by simp only[go_sem,seval,h0];rfl) (hp:=by simp only[go_sem,seval,h0])
 ·refine .seq (.rg [] ?_ (h:=by simp only[go_sem,seval,h0];rfl))
  refine .ret ⟨.inr rfl,?_⟩
  exact Out.mm (by simp only[Tryz.results51];rfl) (by simp only[ba_,rns,rn,go_sem,seval,h0]<;>(rw[h0]at hne;rw[hd,if_neg (of_decide_eq_false hne.symm),if_pos (by simpa using h15)])) (by simp only[aw_,go_sem,seval,h0]<;>(rw[h0]at hne;rw[hd,if_neg (of_decide_eq_false hne.symm),if_pos (by simpa using h15)])) (h1:=by simp only[a1_,bn_,go_sem,seval,h0]) (h6:=by simp only[go_sem,seval,h0]) (h7:=by simp only[a5_,go_sem,seval,h0])
 refine .skip (.seq (.rg [at_ [0] [] (c5_ b (q+1) s.length hb (by omega) (by omega))] ?_ (h:=by simp only[go_sem,seval,h0];rfl)))
 refine .seq (.rgDo [at_ [0] [] (pt_ b (q+1+1) u4_ (by decide) hb (by omega) (by omega)),at_ [0] [] (c5_ b (q+1+1+1) 2 hb (by omega) (by omega))] ?_ ?_ (h:=by simp only[go_sem,seval,h0];rfl))
 ·((obtain⟨q1,q2,q3,q4,q5,q6,q7⟩:=aie_ (b:=b) (p:=q+1) h0 (by omega) (by omega) (by omega);have q8:=rd_ (b:=b) (p:=q+1+1) (l:=u4_) (by decide) (by omega) (by omega) 6 (by decide);rw[q3];refine⟨⟨⟨⟨⟨⟨q1,q2,Int.le_refl _,by simp⟩,by simp[u4_,ai_,ler,les,leV],by simp⟩,by omega⟩,by simp⟩,q4,q5,Int.le_refl _⟩,?_⟩;simp only[List.length_append,List.length_drop,List.length_take]at q7 ⊢;omega))
 refine .ret ⟨.inr rfl,?_⟩
 exact Out.mm (by simp only[Tryz.results51];rfl) (by simp only[ba_,rns,rn,go_sem,seval,h0]<;>(rw[h0]at hne;rw[hd,if_neg (of_decide_eq_false hne.symm),if_neg (by simpa using h15)];dsimp only;rw[torn,(aie_ (b:=b) (p:=q+1) h0 (by omega) (by omega) (by omega)).2.2.1,(aie_ (b:=b) (p:=q+1) h0 (by omega) (by omega) (by omega)).2.2.2.2.2.1,List.take_length])) (by simp only[aw_,go_sem,seval,h0]<;>(rw[h0]at hne;rw[hd,if_neg (of_decide_eq_false hne.symm),if_neg (by simpa using h15)])) (h1:=by simp only[a1_,bn_,go_sem,seval,h0]) (h6:=by simp only[go_sem,seval,h0]) (h7:=by simp only[a5_,go_sem,seval,h0])
attribute [local go_sem] aw_ a5_ a9_ in
theorem arq_ (b:Str) (p:Int) (hb:b.length≤2000) (hp:0≤p) (hp2:p<10000000) (h0:(((ec_ (dl5 b p).1).length:Int)==0)=true):ACall En 51 [.pt 0 2 0 0] [rdB b p] [.s (dT5 b p).1] [rdB b (dT5 b p).2]:=by
 obtain⟨h1,h2,h3⟩:=atv_ b (p:=p) hp (by omega)
 have k1:=m2_ (dl5 b p).1
 have T:=le_ (dl5 b p).1 h3
 have D:=afs_ b p hb hp (by omega)
 have hd:dT5 b p=if ec_ (dl5 b p).1=[]then(ec_ (dl5 b p).1,(dl5 b p).2)else if ay_ b (dl5 b p).2 2=0 then(ec_ (dl5 b p).1,(dl5 b p).2+1)else(torn b ((dl5 b p).2+1) u4_ (ec_ (dl5 b p).1),(dl5 b p).2+1+1+1+1):=rfl
 have hne:(((ec_ (dl5 b p).1).length:Int)==0)=decide (ec_ (dl5 b p).1=[]):=by rw[Bool.eq_iff_iff];simp
 generalize (dl5 b p).1=x at *
 generalize (dl5 b p).2=q at *
 generalize ec_ x=s at *
 refine aa_ [0] Tryz.func51 Tryz.ntmps51 fun C=>?_
 refine .seq (.rg [] ?_ (h:=by simp only[go_sem,seval,h0];rfl))
 refine .seq (.rg [at_ [0] [] D,ab_ T] ?_ (h:=by simp only[go_sem,seval,h0];rfl))
 refine .seq (.seq (.rg [at_ [0] [] (c5_ b q 2 hb (by omega) (by omega))] ?_ (h:=by simp only[go_sem,seval,h0];rfl)))
 refine .cB (fun h15=>?_) (fun h15=>?_) (hc:=by simp only[go_sem,seval,h0];rfl) (hp:=by simp only[go_sem,seval,h0])
 ·refine .seq (.rg [] ?_ (h:=by simp only[go_sem,seval,h0];rfl))
  refine .ret ⟨.inr rfl,?_⟩
  exact Out.mm (by simp only[Tryz.results51];rfl) (by simp only[ba_,rns,rn,go_sem,seval,h0]<;>(rw[h0]at hne;rw[hd,if_pos (of_decide_eq_true hne.symm)])) (by simp only[aw_,go_sem,seval,h0]<;>(rw[h0]at hne;rw[hd,if_pos (of_decide_eq_true hne.symm)])) (h1:=by simp only[a1_,bn_,go_sem,seval,h0]) (h6:=by simp only[go_sem,seval,h0]) (h7:=by simp only[a5_,go_sem,seval,h0])
 simp at h15
theorem asa_ (b:Str) (p:Int) (hb:b.length≤2000) (hp:0≤p) (hp2:p<10000000):ACall En 51 [.pt 0 2 0 0] [rdB b p] [.s (dT5 b p).1] [rdB b (dT5 b p).2]:=by
 cases h0:(((ec_ (dl5 b p).1).length:Int)==0)with
 |true=>exact arq_ b p hb hp hp2 h0
 |false=>exact auk_ b p hb hp hp2 h0
def dTo (b:Str) (p:Int):Str × Int:=if ay_ b p 5=0 then dT5 b (p+1)else(ec_ (bm_ b (p+1)).1,(bm_ b (p+1)).2)
theorem a0r_ (b:Str) {p:Int} (hp:0≤p) (hp2:p<5000000):p≤(dTo b p).2∧(dTo b p).2≤p+1000∧(dTo b p).1.length≤300:=by
 obtain⟨h1,h2,h3⟩:=a3z_ b (p:=p+1) (by omega) (by omega)
 obtain⟨q1,q2,_⟩:=lv_ b (p:=p+1) (by omega) (by omega)
 have k1:=m2_ (bm_ b (p+1)).1
 unfold dTo
 split
 ·exact⟨by omega,by omega,h3⟩
 exact⟨by dsimp only;omega,by dsimp only;omega,by dsimp only;omega⟩
attribute [local go_sem] aw_ a5_ a9_ in
theorem y8_ (b:Str) (p:Int) (hb:b.length≤2000) (hp:0≤p) (hp2:p<5000000):ACall En 25 [.pt 0 2 0 0] [rdB b p] [.s (dTo b p).1] [rdB b (dTo b p).2]:=by
 have D:=asa_ b (p+1) hb (by omega) (by omega)
 have D2:=wz_ b (p+1) hb (by omega) (by omega)
 obtain⟨q1,q2,q3,_⟩:=lv_ b (p:=p+1) (by omega) (by omega)
 have T:=le_ (bm_ b (p+1)).1 q3
 have hd:dTo b p=if ay_ b p 5=0 then dT5 b (p+1)else(ec_ (bm_ b (p+1)).1,(bm_ b (p+1)).2):=rfl
 generalize dT5 b (p+1)=u at *
 generalize bm_ b (p+1)=v at *
 refine aa_ [0] Tryz.func25 Tryz.ntmps25 fun C=>?_
 refine .seq (.rg [] ?_)
 refine .seq (.seq (.rg [at_ [0] [] (c5_ b p 5 hb hp (by omega))] ?_))
 refine .cB (fun h5=>?_) fun h5=>?_
 ·refine .seq (.rg [at_ [0] [] D] ?_)
  refine .ret ⟨.inr rfl,Out.mP Tryz.results25 ?_ ?_⟩
  ·rw[hd,if_pos (by simpa using h5)]
  rw[hd,if_pos (by simpa using h5)]
 refine .skip (.seq (.rg [at_ [0] [] D2,ab_ T] ?_))
 refine .ret ⟨.inr rfl,Out.mP Tryz.results25 ?_ ?_⟩
 ·rw[hd,if_neg (by simpa using h5)]
 rw[hd,if_neg (by simpa using h5)]
end
section
theorem abq_ {s:Str} (h:lnOk s):ei_ s=true:=by
 have h1:=ry_ (w:=0) h.1 (by have:=h.2;omega)
 have h2:=h.2
 unfold ei_ tOk
 rw[h1,decide_eq_true (by omega)]
 have:ps_ s=false:=by unfold ps_;rw[Bool.eq_false_iff];intro q;exact ac0_ h (by simpa using q)
 rw[this];rfl
theorem ahv_ {o a n N:Nat} (h:o+a * n=N):(o+if n % 2=1 then a else 0)+2 * a * (n / 2)=N:=by
 have e:=Nat.div_add_mod n 2
 have e2:a * n=2 * a * (n / 2)+a * (n % 2):=by
  conv=>lhs;rw[←e]
  rw[Nat.mul_add,←Nat.mul_assoc,Nat.mul_comm a 2]
 rcases Nat.mod_two_eq_zero_or_one n with q|q
 ·rw[q]at e2 ⊢;simp at e2 ⊢;omega
 rw[q]at e2 ⊢;simp at e2 ⊢;omega
theorem pn_ {o a n N:Nat} (h:o+a * n=N) (hn:0<n):a≤N:=by
 have:=Nat.le_mul_of_pos_right a hn;omega
end
section
def okP (p:Pg):Bool:=ei_ p.line&&decide (p=dl_ p.line)
def bi_ (l:List Pg):Bool:=decide (1≤l.length)&&decide (l.length≤16)&&l.all okP
def f4_ (s:Str):List Pg:=if (bo_ s).length≤16 then(bo_ s).map dl_ else []
def f2_ (s:Str):Sl:=(ch_ s).getD S0
def ia_ (l:List Pg):List Sl:=l.map fun p=>f2_ p.line
def bc_ (l:List Pg):Str:=if bi_ l then bt_ (l.map (·.line))else []
def d5_ (l:List Pg):Str:=if bi_ l then bt_ (l.map (·.text))else []
def h4_ (l:List Pg):Nat→List Sg
 |0=>[]
 |k+1=>h4_ l k++(if (l.getD k Pg0).good then sgs k ((az_ (l.getD k Pg0).text).getD []) (l.getD k Pg0).frm else [])
def a6_ (l:List Pg):List Sg:=if bi_ l then h4_ l l.length else []
def ge_ (l:List Pg):Nat→List Int
 |0=>[]
 |k+1=>ge_ l k++(if (l.getD k Pg0).good then []else [(k:Int)])
def ky_ (l:List Pg):List Int:=if bi_ l then ge_ l l.length else []
theorem b5_ {l:List Pg} (h:bi_ l=true):1≤l.length∧l.length≤16∧∀k,k<l.length→okP (l.getD k Pg0)=true:=by
 simp only[bi_,Bool.and_eq_true,decide_eq_true_eq]at h
 exact⟨h.1.1,h.1.2,fun k hk=>List.all_eq_true.1 h.2 _ (ag_ hk)⟩
theorem kt_ {p:Pg} (h:okP p=true):ei_ p.line=true∧p=dl_ p.line:=by
 simp only[okP,Bool.and_eq_true,decide_eq_true_eq]at h;exact h
theorem w8_ (s:Str):sok (f2_ s)=true:=by
 unfold f2_
 cases h:ch_ s with
 |none=>exact aja_
 |some x=>exact(r4_.1 h).1
theorem emT_S0':emT S0=[]:=by unfold emT;rw[if_pos aja_];decide
theorem il_ {p:Pg} (h:okP p=true):p.text=emT (f2_ p.line)∧p.frm=emF (f2_ p.line)∧p.good=(ch_ p.line).isSome:=by
 obtain⟨h1,h2⟩:=kt_ h
 unfold f2_
 cases hx:ch_ p.line with
 |none=>rw[h2,ws_ h1 (by rw[hx];rfl)];exact⟨emT_S0'.symm,emF_S0.symm,rfl⟩
 |some x=>rw[h2,ab8_ h1 (by rw[hx];rfl),hx];exact⟨rfl,rfl,rfl⟩
theorem ajf_ {l:List Pg} {k:Nat} (h:k<l.length):(ia_ l).getD k S0=f2_ (l.getD k Pg0).line:=by
 simp[ia_,List.getD_eq_getElem?_getD,List.getElem?_eq_getElem h]
theorem lb_ (l:List Pg):(ia_ l).length=l.length:=by simp[ia_]
theorem vq_ {l:List Pg} (h:bi_ l=true):pok (ia_ l)=true:=by
 obtain⟨h1,h2,_⟩:=b5_ h
 simp only[pok,lb_,Bool.and_eq_true,decide_eq_true_eq]
 refine⟨⟨h1,h2⟩,List.all_eq_true.2 fun x hx=>?_⟩
 obtain⟨p,_,rfl⟩:=List.mem_map.1 hx
 exact w8_ _
theorem ap4_ {p:Pg} (h:okP p=true) (hg:p.good=false):f2_ p.line=S0:=by
 have:=(il_ h).2.2
 unfold f2_
 cases hx:ch_ p.line with
 |none=>rfl
 |some x=>rw[hg,hx]at this;cases this
theorem acq_ {l:List Pg} (h:bi_ l=true):∀k,k≤l.length→h4_ l k=sgN (ia_ l) k
 |0,_=>rfl
 |k+1,hk=>by
  have ho:=(b5_ h).2.2 k (by omega)
  rw[h4_,sgN,acq_ h k (by omega),ajf_ (by omega)]
  congr 1
  cases hg:(l.getD k Pg0).good with
  |true=>obtain⟨q1,q2,_⟩:=il_ ho;rw[q1,q2];rfl
  |false=>rw[ap4_ ho hg,a1c_];rfl
theorem atf_ {l:List Pg} (h:bi_ l=true):a6_ l=sgP (ia_ l):=by
 unfold a6_ sgP
 rw[if_pos h,if_pos (vq_ h),acq_ h _ (Nat.le_refl _),lb_]
theorem ayd_ {l:List Pg} (h:∀p∈l,okP p=true):l.map (·.text)=(ia_ l).map emT:=by
 unfold ia_
 rw[List.map_map]
 exact List.map_congr_left fun p hp=>(il_ (h p hp)).1
theorem gj_ {l:List Pg} (h:bi_ l=true):∀p∈l,okP p=true:=by
 simp only[bi_,Bool.and_eq_true]at h
 exact List.all_eq_true.1 h.2
theorem au7_ {l:List Pg} (h:bi_ l=true):d5_ l=ve_ (ia_ l):=by
 unfold d5_ ve_
 rw[if_pos h,if_pos (vq_ h),ayd_ (gj_ h)]
theorem al4_:∀ {l:Str} {w:Int},gy_ l w=true→(10:UInt8) ∉ l→w≤120→l.all prt=true∧w+l.length≤120
 |[],w,_,_,hw=>⟨rfl,by simpa using hw⟩
 |c::l,w,h,hn,hw=>by
  simp only[List.mem_cons,not_or]at hn
  rw[gy_,if_neg (fun e=>hn.1 e.symm)]at h
  simp only[Bool.and_eq_true,decide_eq_true_eq]at h
  obtain⟨q1,q2⟩:=al4_ h.2 hn.2 h.1.2
  refine⟨?_,by simp only[List.length_cons];omega⟩
  simp only[List.all_cons,q1,Bool.and_true,prt,Bool.and_eq_true,decide_eq_true_eq]
  exact h.1.1
theorem is_ {s:Str} (h:ei_ s=true):lnOk s:=by
 simp only[ei_,tOk,ps_,Bool.and_eq_true,Bool.not_eq_true']at h
 have hn:(10:UInt8) ∉ s:=fun q=>by rw[List.contains_iff_mem.2 q]at h;exact absurd h.2 (by decide)
 obtain⟨q1,q2⟩:=al4_ h.1.1 hn (by decide)
 exact⟨q1,by omega⟩
theorem pf_ (s:Sl):lnOk (emT s):=by
 by_cases h:sok s=true
 ·rw[rv_ h];exact w4_ (tq_ h)
 unfold emT;rw[if_neg h];exact⟨rfl,by simp⟩
theorem ys_ {α:Type} {l:List α} (h:1≤l.length):l≠[]:=List.length_pos_iff.1 h
theorem aar_ {l:List Pg} (h:bi_ l=true):bo_ (bc_ l)=l.map (·.line):=by
 obtain⟨h1,h2,_⟩:=b5_ h
 unfold bc_
 rw[if_pos h]
 refine ly_ (fun w hw=>?_) (ys_ (by simpa using h1)) (by simpa using h2)
 obtain⟨p,hp,rfl⟩:=List.mem_map.1 hw
 exact is_ (kt_ (gj_ h p hp)).1
end
section
theorem pz_ (l:List Pg):∀k,(ge_ l k).length≤k
 |0=>by simp[ge_]
 |k+1=>by
  have:=pz_ l k
  rw[ge_,List.length_append];split<;>simp<;>omega
theorem adg_ {l:List Pg} {i n:Nat} (h:(l.getD i Pg0).good=false):(ge_ l (i+1)).length=(ge_ l i).length+1:=by rw[ge_,h];simp
theorem ms_ {l:List Pg} {i:Nat} (h:(l.getD i Pg0).good=true):ge_ l (i+1)=ge_ l i:=by rw[ge_,h];simp
theorem kc_ (l:List Pg):(a6_ l).length≤2000:=by
 cases h:bi_ l with
 |true=>rw[atf_ h];have:=a13_ (ia_ l);omega
 |false=>unfold a6_;rw[h];simp
theorem wh_ (l:List Pg):(ky_ l).length≤16:=by
 unfold ky_;split
 ·rename_i h;have:=pz_ l l.length;have:=(b5_ h).2.1;omega
 simp
theorem my_ (l:List Pg):(bc_ l).length≤3000:=by
 unfold bc_;split
 ·rename_i h
  have h1:=(b5_ h).2.1
  have:=aep_ (l:=l.map (·.line)) (k:=120) fun s hs=>by
   obtain⟨p,hp,rfl⟩:=List.mem_map.1 hs
   exact(is_ (kt_ (gj_ h p hp)).1).2
  rw[List.length_map]at this
  have:=Nat.mul_le_mul_right 121 h1
  omega
 simp
theorem qr_ (l:List Pg):(d5_ l).length≤3000:=by
 unfold d5_;split
 ·rename_i h
  have h1:=(b5_ h).2.1
  have:=aep_ (l:=l.map (·.text)) (k:=120) fun s hs=>by
   obtain⟨p,hp,rfl⟩:=List.mem_map.1 hs
   rw[(il_ (gj_ h p hp)).1];exact(pf_ _).2
  rw[List.length_map]at this
  have:=Nat.mul_le_mul_right 121 h1
  omega
 simp
end
section
def pgB (p:Pg):Prop:=p.line.length≤2000000∧p.text.length≤2000000∧p.frm.length≤2000000
theorem a2z_ (s:Sl):(emF s).length≤1000:=by
 by_cases h:sok s=true
 ·have:=acn_ h;omega
 unfold emF;rw[if_neg h];simp
theorem abf_ {s:Str} (h:s.length≤2000000):pgB (dl_ s):=by
 unfold dl_
 split
 ·cases hx:ch_ s with
  |none=>exact⟨h,by simp,by simp⟩
  |some x=>exact⟨h,by have:=(pf_ x).2;dsimp only;omega,by have:=a2z_ x;dsimp only;omega⟩
 exact⟨by simp[Pg0],by simp[Pg0],by simp[Pg0]⟩
end
section
def bf_ (l:List Pg) (a:Int) (d:Nat) (ls:List Str):Bool:=
 bi_ l&&(decide (0≤a)&&decide (a≤(l.length:Int) - d))&&ls.all ei_&&(decide (1≤(l.length:Int) - d+ls.length)&&decide ((l.length:Int) - d+ls.length≤16))
def n9_ (l:List Pg) (a d:Nat) (ls:List Str):List Pg:=l.take a++ls.map dl_++l.drop (a+d)
def chg (l:List Pg) (a:Int) (d:Nat) (ls:List Str):List Pg:=if bf_ l a d ls then n9_ l a.toNat d ls else []
theorem an7_ {s:Str} (h:ei_ s=true):(dl_ s).line=s:=by
 unfold dl_;rw[if_pos h];split<;>rfl
theorem aq5_ {s:Str} (h:ei_ s=true):okP (dl_ s)=true:=by
 unfold okP;rw[an7_ h,h];simp
theorem ali_ {l:List Pg} (h1:1≤l.length) (h2:l.length≤16) (h:∀p∈l,okP p=true):bi_ l=true:=by
 unfold bi_;rw[decide_eq_true h1,decide_eq_true h2,List.all_eq_true.2 h];rfl
theorem dw_ {l:List Pg} {a:Int} {d:Nat} {ls:List Str} (h:bf_ l a d ls=true):bi_ l=true∧0≤a∧a≤(l.length:Int) - d∧(∀s∈ls,ei_ s=true)∧1≤(l.length:Int) - d+ls.length∧(l.length:Int) - d+ls.length≤16:=by
 simp only[bf_,Bool.and_eq_true,decide_eq_true_eq,List.all_eq_true]at h
 exact⟨h.1.1.1,h.1.1.2.1,h.1.1.2.2,h.1.2,h.2.1,h.2.2⟩
theorem wb_ {l:List Pg} {a:Int} {d:Nat} {ls:List Str} (h1:bi_ l=true) (h2:0≤a) (h3:a≤(l.length:Int) - d) (h4:∀s∈ls,ei_ s=true) (h5:1≤(l.length:Int) - d+ls.length) (h6:(l.length:Int) - d+ls.length≤16):bf_ l a d ls=true:=by
 simp only[bf_,Bool.and_eq_true,decide_eq_true_eq,List.all_eq_true]
 exact⟨⟨⟨h1,h2,h3⟩,h4⟩,h5,h6⟩
theorem rt_ {l:List Pg} {a:Int} {d:Nat} {ls:List Str} (h:bf_ l a d ls=true):chg l a d ls=n9_ l a.toNat d ls:=by unfold chg;rw[if_pos h]
theorem aat_ {l:List Pg} {a:Int} {d:Nat} {ls:List Str} (h:bf_ l a d ls=false):chg l a d ls=[]:=by unfold chg;rw[h];rfl
theorem wj_ {l:List Pg} {a d:Nat} {ls:List Str} (h:a+d≤l.length):(n9_ l a d ls).length=l.length - d+ls.length:=by
 unfold n9_;simp only[List.length_append,List.length_take,List.length_map,List.length_drop];omega
theorem azx_ {l:List Pg} {a:Int} {d:Nat} {ls:List Str} (h:bf_ l a d ls=true):(chg l a d ls).length=l.length - d+ls.length:=by
 obtain⟨_,h2,h3,_⟩:=dw_ h
 rw[rt_ h,wj_ (by omega)]
theorem ah2_ {l:List Pg} {a:Int} {d:Nat} {ls:List Str} (h:bf_ l a d ls=true):bi_ (chg l a d ls)=true:=by
 obtain⟨h1,h2,h3,h4,h5,h6⟩:=dw_ h
 have hl:=azx_ h
 refine ali_ (by omega) (by omega) fun p hp=>?_
 rw[rt_ h]at hp
 unfold n9_ at hp
 simp only[List.mem_append,List.mem_map]at hp
 rcases hp with(hp|⟨s,hs,rfl⟩)|hp
 ·exact gj_ h1 p (List.mem_of_mem_take hp)
 ·exact aq5_ (h4 s hs)
 exact gj_ h1 p (List.mem_of_mem_drop hp)
theorem a2b_ {l:List Pg} {a d:Nat} {ls:List Str} (h:∀p∈l,pgB p) (hs:∀s∈ls,s.length≤2000000):∀p∈n9_ l a d ls,pgB p:=fun p hp=>by
 unfold n9_ at hp
 simp only[List.mem_append,List.mem_map]at hp
 rcases hp with(hp|⟨s,h1,rfl⟩)|hp
 ·exact h p (List.mem_of_mem_take hp)
 ·exact abf_ (hs s h1)
 exact h p (List.mem_of_mem_drop hp)
theorem abu_ {l:List Pg} {a:Int} {w:Str}:bf_ l a 1 [w]=true↔bi_ l=true∧0≤a∧a<l.length∧ei_ w=true:=by
 constructor
 ·intro h
  obtain⟨h1,h2,h3,h4,h5,h6⟩:=dw_ h
  exact⟨h1,h2,by omega,h4 w (by simp)⟩
 rintro⟨h1,h2,h3,h4⟩
 have:=b5_ h1
 exact wb_ h1 h2 (by omega) (by simpa using h4) (by simp;omega) (by simp;omega)
theorem air_ {l:List Pg} {a:Int} {w:Str}:bf_ l a 0 [w]=true↔bi_ l=true∧0≤a∧a≤l.length∧ei_ w=true∧l.length<16:=by
 constructor
 ·intro h
  obtain⟨h1,h2,h3,h4,h5,h6⟩:=dw_ h
  simp at h6
  exact⟨h1,h2,by omega,h4 w (by simp),by omega⟩
 rintro⟨h1,h2,h3,h4,h5⟩
 have:=b5_ h1
 exact wb_ h1 h2 (by omega) (by simpa using h4) (by simp;omega) (by simp;omega)
theorem aak_ {l:List Pg} {a:Int}:bf_ l a 1 []=true↔bi_ l=true∧0≤a∧a<l.length∧2≤l.length:=by
 constructor
 ·intro h
  obtain⟨h1,h2,h3,h4,h5,h6⟩:=dw_ h
  simp at h5
  exact⟨h1,h2,by omega,by omega⟩
 rintro⟨h1,h2,h3,h4⟩
 have:=b5_ h1
 exact wb_ h1 h2 (by omega) (fun s hs=>by cases hs) (by simp;omega) (by simp;omega)
theorem ayg_ {l:List Pg} {a:Int} {w:Str} (h:bf_ l a 1 [w]=true):chg l a 1 [w]=l.set a.toNat (dl_ w):=by
 obtain⟨_,h2,h3,_⟩:=abu_.1 h
 rw[rt_ h,List.set_eq_take_append_cons_drop,if_pos (by omega)]
 unfold n9_;simp
theorem a33_ {l:List Pg} {a:Int} {w:Str} (h:bf_ l a 0 [w]=true):chg l a 0 [w]=l.take a.toNat++dl_ w::l.drop a.toNat:=by
 rw[rt_ h];unfold n9_;simp
theorem a1b_ {l:List Pg} {a:Int} (h:bf_ l a 1 []=true):chg l a 1 []=l.take a.toNat++l.drop (a.toNat+1):=by
 rw[rt_ h];unfold n9_;simp
theorem atr_:ei_ []=true:=abq_ ⟨rfl,by simp⟩
end
section
theorem ajb_:∀ {s:Str} {w:Int},gy_ s w=true→w≤120→∀ {x:Str} {r:List Str},spl s=x::r→(x.all prt=true∧w+x.length≤120)∧∀y∈r,lnOk y
 |[],w,_,hw,x,r,e=>by
  simp only[spl,List.cons.injEq]at e
  obtain⟨rfl,rfl⟩:=e
  exact⟨⟨rfl,by simpa using hw⟩,fun y hy=>by cases hy⟩
 |c::l,w,h,hw,x,r,e=>by
  rw[gy_]at h
  cases hl:spl l with
  |nil=>exact absurd hl (ack_ l)
  |cons y t=>
   by_cases q:c=10
   ·rw[if_pos q]at h
    subst q
    rw[aqj_,hl]at e
    cases e
    obtain⟨⟨a1,a2⟩,a3⟩:=ajb_ h (by decide) hl
    refine⟨⟨rfl,by simpa using hw⟩,fun z hz=>?_⟩
    rcases List.mem_cons.1 hz with rfl|hz
    ·exact⟨a1,by omega⟩
    exact a3 z hz
   rw[if_neg q]at h
   simp only[Bool.and_eq_true,decide_eq_true_eq]at h
   rw[v3_ q hl]at e
   cases e
   obtain⟨⟨a1,a2⟩,a3⟩:=ajb_ h.2 h.1.2 hl
   refine⟨⟨?_,by simp only[List.length_cons];omega⟩,a3⟩
   simp only[List.all_cons,a1,Bool.and_true,prt,Bool.and_eq_true,decide_eq_true_eq]
   exact h.1.1
theorem amy_ {s w:Str} (h:w∈bo_ s):ei_ w=true:=by
 unfold bo_ at h
 split at h
 ·rename_i q
  simp only[tOk,Bool.and_eq_true]at q
  cases hl:spl s with
  |nil=>exact absurd hl (ack_ s)
  |cons x r=>
   obtain⟨⟨a1,a2⟩,a3⟩:=ajb_ q.1 (by decide) hl
   rw[hl]at h
   rcases List.mem_cons.1 h with rfl|h
   ·exact abq_ ⟨a1,by omega⟩
   exact abq_ (a3 _ h)
 cases h
theorem a01_ {ls:List Str} (hL:∀w∈ls,ei_ w=true) (h1:1≤ls.length) (h16:ls.length≤16):bi_ (ls.map dl_)=true:=
 ali_ (by simpa using h1) (by simpa using h16) fun p hp=>by
  obtain⟨w,hw,rfl⟩:=List.mem_map.1 hp
  exact aq5_ (hL w hw)
theorem akx_ {s:Str} (h:f4_ s≠[]):bi_ (f4_ s)=true:=by
 unfold f4_ at h ⊢
 split
 ·rename_i q
  rw[if_pos q]at h
  refine a01_ (fun w hw=>amy_ hw) (Nat.succ_le_of_lt (List.length_pos_iff.2 fun e=>h (by rw[e];rfl))) q
 rename_i q;rw[if_neg q]at h;exact absurd rfl h
theorem an9_ {ls:List Str} (hL:∀w∈ls,ei_ w=true) (h1:1≤ls.length) (h16:ls.length≤16):f4_ (bt_ ls)=ls.map dl_:=by
 unfold f4_
 rw[ly_ (fun w hw=>is_ (hL w hw)) (ys_ h1) h16,if_pos h16]
theorem apc_ {w:Str} (h:ei_ w=true):f4_ w=[dl_ w]:=by
 have:=an9_ (ls:=[w]) (by simpa using h) (by simp) (by simp)
 rw[qt_]at this;exact this
end
section
def l0_ (ls:List Str):Bool:=ls.all fun w=>(ch_ w).isSome
def prR (s:Str):Bool:=l0_ (bo_ s)&&pok ((bo_ s).map f2_)
def prL (s:Str):List Sl:=if prR s then(bo_ s).map f2_ else []
theorem w3_ {l:List Str} {k:Nat} (h:k<l.length):l0_ (l.take (k+1))=(l0_ (l.take k)&&(ch_ (l.getD k [])).isSome):=by
 unfold l0_
 rw[List.take_add_one,List.getElem?_eq_getElem h,List.all_append,List.getD_eq_getElem?_getD,List.getElem?_eq_getElem h];simp
theorem ac8_ {l:List Str} {k:Nat} (h:k<l.length) (hn:(ch_ (l.getD k [])).isSome=false):l0_ l=false:=by
 rw[Bool.eq_false_iff];intro q
 have:=List.all_eq_true.1 q _ (ag_ (d:=[]) h)
 rw[hn]at this;cases this
attribute [local go_sem] c3_ dy_ in
theorem atb_ (l:List Sl) (hl:l.length<1099511627776):ACall En 159 [.sl false (sR l)] [] [.sl false (sR l)] []:=by
 refine aa_ [] Tryz.func159 Tryz.ntmps159 fun C=>?_
 refine .seq (.rg [] ?_)
 refine .seq (.rg [] ?_)
 refine .ret ⟨.inr rfl,Out.pQ Tryz.results159 ?_⟩;rw[List.take_of_length_le (by rw[dy_];exact Nat.le_refl _)];exact ad_ _
theorem jq_ (ls:List Str):p5_ (ls.map f2_)=true:=by
 refine List.all_eq_true.2 fun s hs=>?_
 obtain⟨w,_,rfl⟩:=List.mem_map.1 hs
 exact vn_ w
attribute [local go_sem] af_ ah_ c3_ dy_ a9_ in
theorem ad1_ (s:Str) (hs:s.length≤281474976710656):ACall En 90 [.s s] [] [.sl false (sR (prL s)),.b (prR s)] []:=by
 have hL:=e5_ s
 have hM:=hb_ s
 have hX:prL s=if prR s then(bo_ s).map f2_ else []:=rfl
 have hP:prR s=(l0_ (bo_ s)&&pok ((bo_ s).map f2_)):=rfl
 have T:=li_ s hs
 generalize bo_ s=ls at *
 have hm:=jq_ ls
 have hst:∀k,k<ls.length→((ls.take (k+1)).map f2_)=((ls.take k).map f2_)++[(ch_ (ls.getD k [])).getD S0]:=fun k h=>by
  rw[List.take_add_one,List.getElem?_eq_getElem h,List.getD_eq_getElem?_getD,List.getElem?_eq_getElem h,List.map_append];rfl
 refine aa_ [] Tryz.func90 Tryz.ntmps90 fun C=>?_
 refine .seq (.rg [] ?_)
 refine .seq (.rg [] ?_)
 refine .seqJ (fun u:Unit=>⟨[.no,.no,.no,.no,.sl false (sR (ls.map f2_)),.no,.no,.no,.no,.no,.no,.no,.no,.no,.no,.no,.no,.no,.no,.no,.no,.no,.no,.no,.no,.no,.no,.no,.no,.no,.no,.no,.no],ae_ [],us []⟩) (fun u:Unit=>l0_ ls=true) ?_ (fun u hJ=>?_)
 ·refine .seq (.rg [ab_ T] ?_)
  refine .block (.loopK (fun k:Nat=>⟨[.no,.no,.no,.no,.ow 80 11 0 k,.no,.no,.no,.no,.no,.sl false (ai_ ls),.i .i64 ls.length,.i .i64 k,.no,.no,.no,.no,.no,.no,.no,.no,.no,.no,.no,.no,.no,.no,.no,.no,.no,.no,.no,.no],ae_ [(80,⟨58,11,sR ((ls.take k).map f2_)⟩)],us [80]⟩) (fun k:Nat=>k≤ls.length∧l0_ (ls.take k)=true) (fun k:Nat=>ls.length - k) (0) ?_ ?_ (fun k hI=>?_))
  ·exact⟨Nat.zero_le _,rfl⟩
  ·refine Can.trans (Can.ownSlot 4 80 58 11 (by simp only[go_sem,seval]<;>rfl) (by simp only[go_sem,seval]) (by simp only[go_sem,seval]<;>rfl)) ?_
   refine Can.wk ?_ ?_
   ·trivial
   (try simp[sR])
  refine .seq (.rg [] ?_)
  refine .seq (.cB (fun h13=>?_) fun h13=>?_)
  ·refine .skip (.seq (.block (.seq (.rgo [] ?_ ?_ (h:=by simp only[go_sem,seval,an_ (show k<ls.length by simpa using h13)];rfl)))))
   ·((simp only[decide_eq_true_eq]at h13;and_intros<;>first|omega|(simp;done)|(simp;omega)))
   refine .seq (.rgo [a0_ (k<ls.length) (fun h=>sr_ (ls.getD k []) (by have:=hM _ (ag_ (d:=[]) h);omega))] ?_ ?_)
   ·((simp only[decide_eq_true_eq]at h13;and_intros<;>first|omega|(simp;done)|(simp;omega)))
   refine .seq (.seq (.rg [] ?_))
   refine .cB (fun h22=>?_) fun h22=>?_
   ·refine .seq (.rg [] ?_)
    refine .ret ⟨.inr rfl,Out.pQ Tryz.results90 ?_⟩;have e:prR s=false:=(by rw[hP,ac8_ (k:=k) (by simpa using h13) (by simpa using h22)];rfl);rw[hX,e];simp[sR,ler]
   refine .skip (.rgo [] ?_ ?_)
   ·((simp only[decide_eq_true_eq]at h13;and_intros<;>first|omega|(simp;done)|(simp;omega)))
   refine .rg [] ?_
   refine⟨k+1,?_,?_,?_⟩
   ·simp at h13;refine⟨by omega,?_⟩;rw[w3_ h13,hI.2];simpa using h22
   ·simp at h13;omega
   refine Can.trans (Can.sX 36 80) ?_
   refine Can.wk ?_ ?_
   ·rw[ac_ (by simp at h13;omega) (by simp at h13;omega)];(try simp)
   rw[hst k (by simpa using h13)];simp[sR,a9_]
  refine .exit ?_
  refine Exists.intro (()) ⟨?_,?_⟩
  ·simp only[decide_eq_false_iff_not]at h13;have e:=hI.2;rw[List.take_of_length_le (by omega)]at e;exact e
  refine Can.trans (Can.frz 80 (by simp only[go_sem,seval]<;>rfl) (by simp only[go_sem,seval]) (by simp only[go_sem,seval]<;>rfl) (by simp only[go_sem,seval]<;>rfl)) ?_
  refine Can.wh ?_;simp only[decide_eq_false_iff_not]at h13;(obtain rfl:k=ls.length:=(by omega));simp[List.take_of_length_le,dy_,leV,ad_]
 refine .seq (.seq (.rg [ab_ (r5_ (ls.map f2_) hm (by simp;omega))] ?_))
 refine .cB (fun h30=>?_) fun h30=>?_
 ·refine .seq (.rg [] ?_)
  refine .ret ⟨.inr rfl,Out.pQ Tryz.results90 ?_⟩;have e:prR s=false:=(by rw[hP,hJ,show pok (ls.map f2_)=false by simpa using h30];rfl);rw[hX,e];simp[sR,ler]
 refine .skip (.seq (.rg [ab_ (atb_ (ls.map f2_) (by simp;omega))] ?_))
 refine .ret ⟨.inr rfl,Out.pQ Tryz.results90 ?_⟩;have e:prR s=true:=(by rw[hP,hJ,show pok (ls.map f2_)=true by simpa using h30];rfl);rw[hX,e];simp[ad_]
/-! books and programs, plainly -/
end
end Go.Proofs.YthjccajoadjicaaGreatDoor
