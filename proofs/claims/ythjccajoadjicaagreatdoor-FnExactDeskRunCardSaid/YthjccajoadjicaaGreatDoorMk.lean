/- Whence the words of a program came: the program's segsOf, EmitSegs. Conditions: none. -/
import Derived.Test.YthjccajoadjicaaGreatDoorMj
import Derived.RangeFuncNested
set_option linter.unusedVariables false
set_option linter.unusedSimpArgs false
set_option maxRecDepth 100000
set_option maxHeartbeats 8000000
namespace Go.Proofs.YthjccajoadjicaaGreatDoor
section
attribute [local go_sem] cf_ df_ in
theorem an1_ (l:List Sg) (hl:l.length<1099511627776):ACall En 155 [.sl false (sgR l)] [] [.sl false (sgR l)] []:=by
 refine aa_ [] Tryz.func155 Tryz.ntmps155 fun C=>?_
 refine .seq (.rg [] ?_)
 refine .seq (.rg [] ?_)
 refine .ret ⟨.inr rfl,Out.pQ Tryz.results155 ?_⟩;rw[List.take_of_length_le (by rw[df_];exact Nat.le_refl _)];exact ad_ _
attribute [local go_sem] hs_ gv_ a2_ al_ cf_ in
theorem aqe_ (i:Int) (t:Str) (fs:List Int) (ht:t.length≤281474976710656) (hl:((az_ t).getD []).length≤fs.length) (hf:fs.length≤1000000):ACall En 154 [.i .i64 i,.s t,.sl false (inR fs)] [] [.sl false (sgR (sgs i ((az_ t).getD []) fs))] []:=by
 have T:=x9_ t ht
 generalize (az_ t).getD []=ts at *
 refine aa_ [] Tryz.func154 Tryz.ntmps154 fun C=>?_
 refine .seq (.rg [] ?_)
 refine .seq (.rg [ab_ T] ?_)
 refine .seq (.rg [] ?_)
 refine .seq (.seq (.rg [] ?_))
 refine .block (.loopK (fun k:Nat=>⟨[.i .i64 i,.no,.sl false (inR fs),.no,.no,.no,.no,.no,.no,.ow 20 4 0 (sgK i ts fs k).length,.no,.no,.no,.no,.no,.no,.no,.sl false (tkR ts),.i .i64 ts.length,.i .i64 k,.no,.no,.no,.no,.no,.no,.no,.no,.no,.no,.no,.no,.no,.no,.no,.no,.no,.no,.no,.no,.no,.no,.no,.no,.no],ae_ [(20,⟨138,4,sgR (sgK i ts fs k)⟩)],us [20]⟩) (fun k:Nat=>k≤ts.length) (fun k:Nat=>ts.length - k) (0) ?_ ?_ (fun k hI=>?_))
 ·simp
 ·refine Can.trans (Can.ownSlot 9 20 138 4 (by simp only[go_sem,seval]<;>rfl) (by simp only[go_sem,seval]) (by simp only[go_sem,seval]<;>rfl)) ?_
  refine Can.wk ?_ ?_
  ·simp[u0_]
  simp[u0_,sgR]
 refine .seq (.rg [] ?_)
 refine .seq (.cB (fun h20=>?_) fun h20=>?_)
 ·refine .skip (.seqJ (fun u:Unit=>⟨[.i .i64 i,.no,.sl false (inR fs),.no,.no,.no,.no,.no,.no,.ow 20 4 0 (sgK i ts fs (k+1)).length,.no,.no,.no,.no,.no,.no,.no,.sl false (tkR ts),.i .i64 ts.length,.i .i64 k,.no,.no,.no,.no,.no,.no,.no,.no,.no,.no,.no,.no,.no,.no,.no,.no,.no,.no,.no,.no,.no,.no,.no,.no,.no],ae_ [(20,⟨138,4,sgR (sgK i ts fs (k+1))⟩)],us [20]⟩) (fun u:Unit=>True) ?_ (fun u hJ=>?_))
  ·refine .block (.seq (.rgo [] ?_ ?_ (h:=by simp only[go_sem,seval,tv_ (show k<ts.length by simpa using h20)];rfl)))
   ·((simp only[decide_eq_true_eq]at h20;have q:=th_ i ts fs k;simp[c7_,df_];omega))
   refine .seq (.rgo [] ?_ ?_ (h:=by simp only[go_sem,seval,c1_ (show k<fs.length by(have h':k<ts.length:=(by simpa using h20));omega)];rfl))
   ·((simp only[decide_eq_true_eq]at h20;have q:=th_ i ts fs k;simp[c7_,df_];omega))
   refine .cB (fun h28=>?_) fun h28=>?_
   ·refine .rgDo [] ?_ ?_ (h:=by simp only[go_sem,seval,c1_ (show k<fs.length by(have h':k<ts.length:=(by simpa using h20));omega)];rfl)
    ·((simp only[decide_eq_true_eq]at h20;have q:=th_ i ts fs k;simp[c7_,df_];omega))
    refine Exists.intro (()) ⟨?_,?_⟩
    ·trivial
    refine Can.trans (Can.sX 52 20) ?_
    refine Can.wk ?_ ?_
    ·simp only[decide_eq_true_eq]at h20;first|(rw[gt_ (by omega) (by omega),if_pos (by simpa using h28)];simp;done)|(rw[gt_ (by omega) (by omega),if_neg (by simpa using h28)];simp;done)
    simp only[decide_eq_true_eq]at h20;first|(rw[gt_ (by omega) (by omega),if_pos (by simpa using h28)];simp[sgR,sgC,T0k];done)|(rw[gt_ (by omega) (by omega),if_neg (by simpa using h28)];simp;done)
   refine .skip ?_
   refine Exists.intro (()) ⟨?_,?_⟩
   ·trivial
   refine Can.wk ?_ ?_
   ·simp only[decide_eq_true_eq]at h20;first|(rw[gt_ (by omega) (by omega),if_pos (by simpa using h28)];simp;done)|(rw[gt_ (by omega) (by omega),if_neg (by simpa using h28)];simp;done)
   simp only[decide_eq_true_eq]at h20;first|(rw[gt_ (by omega) (by omega),if_pos (by simpa using h28)];simp[sgR,sgC,T0k];done)|(rw[gt_ (by omega) (by omega),if_neg (by simpa using h28)];simp;done)
  refine .rg [] ?_
  refine⟨k+1,?_,?_,?_⟩
  ·simp at h20;omega
  ·simp at h20;omega
  refine Can.wh ?_;rw[ac_ (by simp at h20;omega) (by simp at h20;omega)];simp
 refine .exit (.seq (.rg [] ?_))
 refine .fX 20 ?_
 refine .ret ⟨.inr rfl,Out.pP Tryz.results154 ?_⟩;simp only[decide_eq_false_iff_not]at h20;rw[alj_ (.inl (by omega))];simp[List.take_of_length_le,df_,peel]
end
section
theorem az9_:ap3_ En.P 80 2:=by
 refine⟨by kernel_rfl,fun w xs ys hx hy=>?_⟩
 match xs,ys,hx,hy with
 |[a,b],[c,d],_,_=>
  have u3:=Tryz.underlying3
  have a3:=Tryz.isAgg3
  have z3:=Tryz.sizeOf3
  have hS:Tryz.prog.underlying 80=some (.struct (Tryz.prog.fieldsOf 80)):=by kernel_rfl
  have hp:Tryz.prog.stoodInHeld 80=false:=by kernel_rfl
  show(Op.equalIn 10000 80 _ _).run Tryz.prog w=_
  rw[show(10000:Nat)=9999+1 from rfl,run_equalIn_agg w 9999 80 _ _ hS hp]
  simp only[Program.fieldsOf,Tryz.underlying80]
  go_simp
  by_cases h1:a=c<;>by_cases h2:b=d<;>simp[h1,h2]
end
section
theorem tm_ (s:Str):(decide ((s.length:Int) > 0)&&(((s.getD 0 0).toNat:Int)==45))=(s.head?==some 45):=by
 cases s with
 |nil=>rfl
 |cons c r=>
  have h:decide (((c::r).length:Int) > 0)=true:=by simp only[List.length_cons,decide_eq_true_eq];omega
  rw[h,Bool.true_and]
  simp only[List.getD_cons_zero,List.head?_cons]
  rw[Bool.eq_iff_iff]
  simp only[beq_iff_eq,Option.some.injEq]
  constructor
  ·intro e;apply UInt8.toNat_inj.1;show _=45;omega
  intro e;rw[e];rfl
theorem zg_:∀(k:Nat) (l:Str),k≤l.length→(l.take k).all b1_=true→am_ (l.take k)<10 ^ k
 |0,l,_,_=>by simp[am_]
 |k+1,l,hk,h=>by
  have e:l.take (k+1)=l.take k++[l.getD k 0]:=by
   rw[List.take_add_one,List.getElem?_eq_getElem hk,List.getD_eq_getElem?_getD,List.getElem?_eq_getElem hk];rfl
  rw[e,List.all_append,Bool.and_eq_true]at h
  have ih:=zg_ k l (by omega) h.1
  rw[e,ju_,Nat.pow_succ]
  have hd:b1_ (l.getD k 0)=true:=by simpa using h.2
  simp only[b1_,Bool.and_eq_true,decide_eq_true_eq]at hd
  omega
theorem avw_ {l:Str} {k:Nat} (hk:k<l.length):am_ (l.take (k+1))=am_ (l.take k) * 10+((l.getD k 0).toNat - 48):=by
 have e:l.take (k+1)=l.take k++[l.getD k 0]:=by
  rw[List.take_add_one,List.getElem?_eq_getElem hk,List.getD_eq_getElem?_getD,List.getElem?_eq_getElem hk];rfl
 rw[e,ju_]
theorem auy_ {l:Str} {k:Nat} (hk:k≤l.length) (h17:l.length≤17) (h:(l.take k).all b1_=true):am_ (l.take k)<100000000000000000:=by
 have:=zg_ k l hk h
 have h2:10 ^ k≤10 ^ 17:=Nat.pow_le_pow_right (by decide) (by omega)
 have h3:(10:Nat) ^ 17=100000000000000000:=by decide
 omega
def me_ (s:Str):Bool:=s.head?==some 45
def cs_ (s:Str):Str:=if me_ s then s.tail else s
theorem us_ (s:Str):f7_ s=if (cs_ s).length=0∨17<(cs_ s).length∨((cs_ s).head? = some 48∧(1<(cs_ s).length∨me_ s=true))then(0,false)else if (cs_ s).all b1_ then(if me_ s then -(am_ (cs_ s):Int)else am_ (cs_ s),true)else(0,false):=rfl
theorem axo_ (q:Str) (h:q≠[]):(((q.getD 0 0).toNat:Int)==48)=decide (q.head? = some 48):=by
 cases q with
 |nil=>exact absurd rfl h
 |cons c r=>
  simp only[List.getD_cons_zero,List.head?_cons,Option.some.injEq]
  rw[Bool.eq_iff_iff]
  simp only[beq_iff_eq,decide_eq_true_eq]
  constructor
  ·intro e;apply UInt8.toNat_inj.1;show _=48;omega
  intro e;rw[e];rfl
theorem aui_ (q:Str) (n:Bool):(((q.length:Int)==0)||decide ((q.length:Int) > 17)||(((q.getD 0 0).toNat:Int)==48)&&(decide ((q.length:Int) > 1)||n))=decide (q.length=0∨17<q.length∨(q.head? = some 48∧(1<q.length∨n=true))):=by
 by_cases hq:q=[]
 ·subst hq;simp
 rw[axo_ q hq,Bool.eq_iff_iff]
 simp only[Bool.or_eq_true,Bool.and_eq_true,beq_iff_eq,decide_eq_true_eq]
 constructor
 ·rintro((h|h)|⟨h1,h2|h2⟩)
  ·exact .inl (by omega)
  ·exact .inr (.inl (by omega))
  ·exact .inr (.inr ⟨h1,.inl (by omega)⟩)
  exact .inr (.inr ⟨h1,.inr h2⟩)
 rintro(h|h|⟨h1,h2|h2⟩)
 ·exact .inl (.inl (by omega))
 ·exact .inl (.inr (by omega))
 ·exact .inr ⟨h1,.inl (by omega)⟩
 exact .inr ⟨h1,.inr h2⟩
theorem aji_ {s:Str} (h:(((cs_ s).length:Int)==0||decide (((cs_ s).length:Int) > 17)||((((cs_ s).getD 0 0).toNat:Int)==48)&&(decide (((cs_ s).length:Int) > 1)||me_ s))=true):f7_ s=(0,false):=by
 rw[aui_]at h
 rw[us_,if_pos (of_decide_eq_true h)]
theorem w1_ {s:Str} (h:(((cs_ s).length:Int)==0||decide (((cs_ s).length:Int) > 17)||((((cs_ s).getD 0 0).toNat:Int)==48)&&(decide (((cs_ s).length:Int) > 1)||me_ s))=false):(cs_ s).length≤17∧f7_ s=(if (cs_ s).all b1_ then(if me_ s then -(am_ (cs_ s):Int)else am_ (cs_ s),true)else(0,false)):=by
 rw[aui_]at h
 have:=of_decide_eq_false h
 exact⟨by omega,by rw[us_,if_neg this]⟩
theorem amr_ (c:UInt8):∀(s:Str) (k:Nat),k<s.length→c ∉ s.take k→s.getD k 0=c→Lib.indexByte s c=k
 |[],k,h,_,_=>by simp at h
 |b::s,0,_,_,e=>by
  simp only[List.getD_cons_zero]at e
  subst e
  unfold Lib.indexByte;simp
 |b::s,k+1,h,hn,e=>by
  simp only[List.take_succ_cons,List.mem_cons,not_or]at hn
  have ih:=amr_ c s k (by simpa using h) hn.2 (by simpa using e)
  unfold Lib.indexByte
  rw[if_neg (by simpa using fun q=>hn.1 q.symm),ih,if_neg (by simp)];rfl
theorem aw5_ (c:UInt8) (s:Str) (h:c ∉ s):Lib.indexByte s c = -1:=by
 have h1:=n8_ s c
 have h2:¬0≤Lib.indexByte s c:=fun q=>h ((ab3_ s c).1 q)
 omega
theorem ay4_ {a b:UInt8} (h:((a.toNat:Int)==(b.toNat:Int))=true):a=b:=by
 simp only[beq_iff_eq]at h
 apply UInt8.toNat_inj.1;omega
theorem ayo_ {a b:UInt8} (h:((a.toNat:Int)==(b.toNat:Int))=false):a≠b:=by
 rintro rfl;simp at h
theorem aqb_ {s:Str} {k:Nat} {c:UInt8} (hk:k<s.length) (h:c ∉ s.take k) (h2:s.getD k 0≠c):c ∉ s.take (k+1):=by
 rw[List.take_add_one,List.getElem?_eq_getElem hk]
 rw[List.getD_eq_getElem?_getD,List.getElem?_eq_getElem hk]at h2
 simp only[Option.toList,List.mem_append,List.mem_cons,List.not_mem_nil,or_false,not_or]
 exact⟨h,fun e=>h2 e.symm⟩
theorem avn_ {c:UInt8} (h:(decide ((c.toNat:Int)<48)||decide ((c.toNat:Int) > 57))=true):b1_ c=false:=by
 simp only[Bool.or_eq_true,decide_eq_true_eq]at h
 rw[Bool.eq_false_iff]
 intro q
 simp only[b1_,Bool.and_eq_true,decide_eq_true_eq]at q
 omega
theorem y2_ {c:UInt8} (h:(decide ((c.toNat:Int)<48)||decide ((c.toNat:Int) > 57))=false):b1_ c=true∧48≤c.toNat∧c.toNat≤57:=by
 simp only[Bool.or_eq_false_iff,decide_eq_false_iff_not]at h
 simp only[b1_,Bool.and_eq_true,decide_eq_true_eq]
 omega
theorem a2w_ {n:Int} (h1:0≤n) (h2:n<256):IntKind.u8.wrap n=n:=by
 have e:(2:Int) ^ IntKind.u8.bits=256:=rfl
 have e':IntKind.u8.signed=false:=rfl
 simp only[IntKind.wrap,e,e',Bool.false_and,Bool.false_eq_true,if_false]
 omega
theorem azk_ {q:Str} {k:Nat} (hk:k<q.length):(q.take (k+1)).all b1_=((q.take k).all b1_&&b1_ (q.getD k 0)):=by
 rw[List.take_add_one,List.getElem?_eq_getElem hk,List.all_append,List.getD_eq_getElem?_getD,List.getElem?_eq_getElem hk];simp
theorem v7_ (s:Str) (hs:s.length≤281474976710656):ACall En 111 [.s s] [] [.i .i64 (f7_ s).1,.b (f7_ s).2] []:=by
 have hq:(cs_ s).length≤s.length:=by unfold cs_;split<;>simp
 have hN:=us_ s
 refine aa_ [] Tryz.func111 Tryz.ntmps111 fun C=>?_
 refine .seq (.rg [] ?_)
 refine .seq (.rg [] ?_)
 refine .seqJ (fun q:Str=>⟨[.s q,.no,.no,.no,.b (me_ s),.no,.no,.no,.no,.no,.no,.no,.no,.no,.no,.no,.no,.no,.no,.no,.no,.no,.no,.no,.no,.no,.no,.no,.no,.no,.no,.no,.no,.no,.no,.no,.no,.no,.no,.no,.no,.no,.no,.no,.no,.no,.no,.no,.no,.no,.no,.no,.no,.no,.no,.no,.no,.no,.no,.no,.no,.no,.no,.no,.no,.no,.no],ae_ [],us []⟩) (fun q:Str=>q=cs_ s) ?_ (fun q hJ=>?_)
 ·refine .seq (.rg [] ?_)
  refine .cB (fun h15=>?_) fun h15=>?_
  ·refine .rgo [] ?_ ?_
   ·rw[Bool.and_eq_true]at h15;have h0:=of_decide_eq_true h15.1;omega
   refine⟨s.drop 1,?_,?_⟩
   ·rw[tm_]at h15;unfold cs_ me_;rw[h15];simp
   refine Can.wh ?_;(refine⟨by simp[List.take_of_length_le],?_⟩;rw[tm_];rfl)
  refine .skip ?_
  refine⟨s,?_,?_⟩
  ·rw[tm_]at h15;unfold cs_ me_;rw[h15];simp
  refine Can.wh ?_;(rw[tm_];rfl)
 refine .seq (.seq (.rgo [] ?_ ?_))
 ·refine⟨⟨⟨⟨fun h=>by rw[h];rfl,fun h=>⟨h,by simp only[Bool.not_eq_true',Bool.or_eq_false_iff,beq_eq_false_iff_ne]at h;have:=h.1;omega⟩⟩,fun h=>⟨h,fun h2=>by rw[h,h2];rfl⟩⟩,fun h=>⟨h,fun h2=>by rw[h,h2];rfl⟩⟩,fun h=>by rw[h];rfl⟩
 refine .cB (fun h38=>?_) fun h38=>?_
 ·refine .seq (.rg [] ?_)
  refine .ret ⟨.inr rfl,Out.pP Tryz.results111 ?_⟩;subst hJ;rw[aji_ h38]
 refine .skip (.seq (.rg [] ?_))
 refine .seq (.seq (.rg [] ?_))
 refine .block (.loopK (fun k:Nat=>⟨[.s q,.no,.no,.no,.b (me_ s),.i .i64 (am_ (q.take k)),.i .i64 k,.no,.no,.no,.no,.no,.no,.no,.no,.no,.no,.no,.no,.no,.no,.no,.no,.no,.no,.no,.no,.no,.no,.no,.no,.no,.no,.no,.no,.no,.no,.no,.no,.no,.no,.no,.no,.no,.no,.no,.no,.no,.no,.no,.no,.no,.no,.no,.no,.no,.no,.no,.no,.no,.no,.no,.no,.no,.no,.no,.no],ae_ [],us []⟩) (fun k:Nat=>k≤q.length∧q.length≤17∧(q.take k).all b1_=true) (fun k:Nat=>q.length - k) (0) ?_ ?_ (fun k hI=>?_))
 ·subst hJ;exact⟨Nat.zero_le _,(w1_ h38).1,by simp⟩
 ·refine Can.wh ?_;simp[am_]
 refine .seq (.seq (.rg [] ?_))
 refine .cB (fun h42=>?_) fun h42=>?_
 ·refine .skip (.seq (.block (.seq (.seq (.rgo [] ?_ ?_)))))
  ·simp only[decide_eq_true_eq]at h42;exact⟨⟨⟨by omega,by omega⟩,fun h=>⟨h,by omega,by omega⟩⟩,fun h=>by rw[h];rfl⟩
  refine .cB (fun h54=>?_) fun h54=>?_
  ·refine .seq (.rg [] ?_)
   refine .ret ⟨.inr rfl,Out.pP Tryz.results111 ?_⟩;subst hJ;simp only[decide_eq_true_eq]at h42;rw[(w1_ h38).2,if_neg];intro h;have:=List.all_eq_true.1 h _ (ag_ (d:=0) (show k<(cs_ s).length by omega));rw[avn_ h54]at this;cases this
  refine .skip (.rgo [] ?_ ?_)
  ·simp only[decide_eq_true_eq]at h42;exact⟨by omega,by omega⟩
  refine .rg [] ?_
  refine⟨k+1,?_,?_,?_⟩
  ·simp only[decide_eq_true_eq]at h42;exact⟨by omega,hI.2.1,by rw[azk_ (by omega),hI.2.2,(y2_ h54).1];rfl⟩
  ·simp at h42;omega
  refine Can.wh ?_;(simp only[decide_eq_true_eq]at h42);(have hb:=auy_ hI.1 hI.2.1 hI.2.2);(have hd:=y2_ h54);rw[a2w_ (by omega) (by omega),ac_ (show -9223372036854775808≤(((q.getD k 0).toNat:Int) - 48) by omega) (by omega),ac_ (show -9223372036854775808≤((am_ (q.take k):Int) * 10) by omega) (by omega),ac_ (by omega) (by omega),ac_ (by omega) (by omega),avw_ (show k<q.length by omega)];omega
 refine .exit (.seqJ (fun v:Int=>⟨[.no,.no,.no,.no,.no,.i .i64 v,.no,.no,.no,.no,.no,.no,.no,.no,.no,.no,.no,.no,.no,.no,.no,.no,.no,.no,.no,.no,.no,.no,.no,.no,.no,.no,.no,.no,.no,.no,.no,.no,.no,.no,.no,.no,.no,.no,.no,.no,.no,.no,.no,.no,.no,.no,.no,.no,.no,.no,.no,.no,.no,.no,.no,.no,.no,.no,.no,.no,.no],ae_ [],us []⟩) (fun v:Int=>v=(if me_ s then -(am_ q:Int)else am_ q)∧q.all b1_=true) ?_ (fun v hJ=>?_))
 ·refine .seq (.rg [] ?_)
  refine .cB (fun h63=>?_) fun h63=>?_
  ·refine .rg [] ?_
   refine Exists.intro (-(am_ q:Int)) ⟨?_,?_⟩
   ·simp only[decide_eq_false_iff_not]at h42;(have h2:=hI.2.2);rw[List.take_of_length_le (by omega)]at h2;rw[h63];exact⟨by simp,h2⟩
   refine Can.wh ?_;(simp only[decide_eq_false_iff_not]at h42);(have hb:=auy_ hI.1 hI.2.1 hI.2.2);rw[List.take_of_length_le (by omega)]at hb ⊢;(try first|(rw[ac_ (by omega) (by omega)]<;>omega)|rfl)
  refine .skip ?_
  refine Exists.intro ((am_ q:Int)) ⟨?_,?_⟩
  ·simp only[decide_eq_false_iff_not]at h42;(have h2:=hI.2.2);rw[List.take_of_length_le (by omega)]at h2;rw[h63];exact⟨by simp,h2⟩
  refine Can.wh ?_;(simp only[decide_eq_false_iff_not]at h42);(have hb:=auy_ hI.1 hI.2.1 hI.2.2);rw[List.take_of_length_le (by omega)]at hb ⊢;(try first|(rw[ac_ (by omega) (by omega)]<;>omega)|rfl)
 refine .seq (.rg [] ?_)
 refine .ret ⟨.inr rfl,Out.pP Tryz.results111 ?_⟩;obtain⟨j1,j2⟩:=hJ;(have e:q=cs_ s:=(by assumption));subst e;rw[(w1_ h38).2,if_pos j2,←j1]
theorem akk_ (s:Str) (hs:s.length≤281474976710656):ACall En 288 [.s s] [] [.b (a8_ s)] []:=by
 have h:=(qc_ s).1
 refine aa_ [] Tryz.func288 Tryz.ntmps288 fun C=>?_
 refine .seq (.rg [] ?_)
 refine .seq (.rg [ab_ (v7_ s hs)] ?_)
 refine .seq (.rg [] ?_)
 refine .ret ⟨.inr rfl,Out.pP Tryz.results288 ?_⟩;rw[←h];simp[Bool.and_assoc]
theorem yy_:ACall En 287 [] [] [.s marks] []:=by
 refine aa_ [] Tryz.func287 Tryz.ntmps287 fun C=>?_
 refine .seq (.rg [] ?_)
 refine .seq (.rg [] ?_)
 refine .ret ⟨.inr rfl,Out.pP Tryz.results287 ?_⟩;rfl
theorem yw_ (s:Str) (c:UInt8) (hs:s.length≤281474976710656):ACall En 286 [.s s,.i .u8 c.toNat] [] [.i .i64 (Lib.indexByte s c)] []:=by
 refine aa_ [] Tryz.func286 Tryz.ntmps286 fun C=>?_
 refine .seq (.rg [] ?_)
 refine .seq (.seq (.rg [] ?_))
 refine .block (.loopK (fun k:Nat=>⟨[.s s,.i .u8 c.toNat,.no,.no,.no,.i .i64 k,.no,.no,.no,.no,.no,.no,.no,.no,.no,.no,.no,.no],ae_ [],us []⟩) (fun k:Nat=>k≤s.length∧c ∉ s.take k) (fun k:Nat=>s.length - k) (0) ?_ ?_ (fun k hI=>?_))
 ·simp
 ·refine Can.wh ?_;trivial
 refine .seq (.seq (.rg [] ?_))
 refine .cB (fun h9=>?_) fun h9=>?_
 ·refine .skip (.seq (.block (.seq (.rgo [] ?_ ?_))))
  ·((simp at h9;simp;omega))
  refine .cB (fun h16=>?_) fun h16=>?_
  ·refine .seq (.rg [] ?_)
   refine .ret ⟨.inr rfl,Out.pP Tryz.results286 ?_⟩;simp only[decide_eq_true_eq]at h9;rw[amr_ c s k (by omega) hI.2 (ay4_ h16)]
  refine .skip (.rg [] ?_)
  refine⟨k+1,?_,?_,?_⟩
  ·simp only[decide_eq_true_eq]at h9;exact⟨by omega,aqb_ (by omega) hI.2 (ayo_ h16)⟩
  ·simp at h9;omega
  refine Can.wh ?_;rw[ac_ (by simp at h9;omega) (by simp at h9;omega)];simp
 refine .exit (.seq (.rg [] ?_))
 refine .ret ⟨.inr rfl,Out.pP Tryz.results286 ?_⟩;simp only[decide_eq_false_iff_not]at h9;have h2:=hI.2;rw[List.take_of_length_le (by omega)]at h2;rw[aw5_ c s h2]
end
section
def ct_ (c:UInt8):Int:=if cd_ c then 1 else if b1_ c then 2 else if marks.contains c then 3 else if c=32 then 4 else 0
theorem yo_ (c:UInt8):ACall En 242 [.i .u8 c.toNat] [] [.i .i64 (ct_ c)] []:=by
 have hf:decide (Lib.indexByte marks c ≥ 0)=marks.contains c:=lf_ marks c
 have h1:(decide ((c.toNat:Int) ≥ 97)&&decide ((c.toNat:Int)≤122))=cd_ c:=rfl
 have h2:(decide ((c.toNat:Int) ≥ 48)&&decide ((c.toNat:Int)≤57))=b1_ c:=rfl
 refine aa_ [] Tryz.func242 Tryz.ntmps242 fun C=>?_
 refine .seq (.rg [] ?_)
 refine .seq (.block (.seq (.rg [] ?_)))
 refine .cB (fun h3=>?_) fun h3=>?_
 ·refine .seq (.rg [] ?_)
  refine .ret ⟨.inr rfl,Out.pP Tryz.results242 ?_⟩;rw[h1]at h3;unfold ct_;rw[if_pos h3]
 refine .seq (.rg [] ?_)
 refine .cB (fun h10=>?_) fun h10=>?_
 ·refine .seq (.rg [] ?_)
  refine .ret ⟨.inr rfl,Out.pP Tryz.results242 ?_⟩;rw[h1]at h3;rw[h2]at h10;unfold ct_;rw[if_neg (by simp[h3]),if_pos h10]
 refine .seq (.rg [ab_ yy_,ab_ (yw_ marks c (by decide))] ?_)
 refine .cB (fun h17=>?_) fun h17=>?_
 ·refine .seq (.rg [] ?_)
  refine .ret ⟨.inr rfl,Out.pP Tryz.results242 ?_⟩;rw[h1]at h3;rw[h2]at h10;rw[hf]at h17;unfold ct_;rw[if_neg (by simp[h3]),if_neg (by simp[h10]),if_pos h17]
 refine .seq (.rg [] ?_)
 refine .cB (fun h22=>?_) fun h22=>?_
 ·refine .seq (.rg [] ?_)
  refine .ret ⟨.inr rfl,Out.pP Tryz.results242 ?_⟩;rw[h1]at h3;rw[h2]at h10;rw[hf]at h17;unfold ct_;rw[if_neg (by simp[h3]),if_neg (by simp[h10]),if_neg (by rw[h17];decide),if_pos (by apply UInt8.toNat_inj.1;show _=32;simp at h22;omega)]
 refine .skip (.seq (.rg [] ?_))
 refine .ret ⟨.inr rfl,Out.pP Tryz.results242 ?_⟩;rw[h1]at h3;rw[h2]at h10;rw[hf]at h17;unfold ct_;rw[if_neg (by simp[h3]),if_neg (by simp[h10]),if_neg (by rw[h17];decide),if_neg (by rintro rfl;simp at h22)]
def exC (c:UInt8) (l:Str):Nat:=if ct_ c<3 then(l.takeWhile fun x=>ct_ x==ct_ c).length else 0
def cq_ (l:Str):Nat:=match l with|[]=>1|c::r=>1+exC c r
theorem on_ {s:Str} {k:Nat} (h:k<s.length):s.drop k=s.getD k 0::s.drop (k+1):=by
 rw[List.drop_eq_getElem_cons h,List.getD_eq_getElem?_getD,List.getElem?_eq_getElem h];rfl
theorem a3f_ (c:UInt8) (l:Str):exC c l≤l.length:=by
 unfold exC;split
 ·exact(List.takeWhile_prefix _).length_le
 omega
theorem od_ {s:Str} {k:Nat} (h:k<s.length):1≤cq_ (s.drop k)∧k+cq_ (s.drop k)≤s.length:=by
 rw[on_ h,cq_]
 have:=a3f_ (s.getD k 0) (s.drop (k+1))
 rw[List.length_drop]at this
 omega
theorem a26_ {c:UInt8} {s:Str} {j:Nat} (h:j<s.length) (h1:ct_ c<3) (h2:ct_ (s.getD j 0)=ct_ c):exC c (s.drop j)=1+exC c (s.drop (j+1)):=by
 unfold exC
 rw[if_pos h1,if_pos h1,on_ h,List.takeWhile_cons,if_pos (by rw[h2];exact beq_self_eq_true _)]
 simp;omega
theorem aqk_ {c:UInt8} {s:Str} {j:Nat} (h:¬(j<s.length∧ct_ c<3∧ct_ (s.getD j 0)=ct_ c)):exC c (s.drop j)=0:=by
 unfold exC
 split
 ·rename_i h1
  rcases Nat.lt_or_ge j s.length with q|q
  ·rw[on_ q,List.takeWhile_cons,if_neg (by simp;exact fun e=>h ⟨q,h1,e⟩)];rfl
  rw[List.drop_of_length_le q];rfl
 rfl
theorem aw1_ (s:Str) (k:Nat) (hk:k<s.length) (hs:s.length≤1000000):ACall En 183 [.s s,.i .i64 k] [] [.i .i64 ((k+cq_ (s.drop k):Nat):Int)] []:=by
 have hE:cq_ (s.drop k)=1+exC (s.getD k 0) (s.drop (k+1)):=by rw[on_ hk];rfl
 refine aa_ [] Tryz.func183 Tryz.ntmps183 fun C=>?_
 refine .seq (.rg [] ?_)
 refine .seq (.rgo [ab_ (yo_ (s.getD k 0))] ?_ ?_)
 ·exact⟨by omega,by omega⟩
 refine .seq (.rg [] ?_)
 refine .seq (.block (.loopK (fun j:Nat=>⟨[.s s,.no,.no,.no,.no,.i .i64 (ct_ (s.getD k 0)),.i .i64 j,.no,.no,.no,.no,.no,.no,.no,.no,.no,.no,.no,.no,.no,.no,.no,.no,.no,.no,.no,.no,.no,.no,.no,.no,.no],ae_ [],us []⟩) (fun j:Nat=>k+1≤j∧j≤s.length∧k+1+exC (s.getD k 0) (s.drop (k+1))=j+exC (s.getD k 0) (s.drop j)) (fun j:Nat=>s.length - j) (k+1) ?_ ?_ (fun j hI=>?_)))
 ·exact⟨Nat.le_refl _,hk,rfl⟩
 ·refine Can.wh ?_;rw[ac_ (by omega) (by omega)];simp
 refine .seq (.seq (.rgo [a0_ (j<s.length) (fun _=>yo_ (s.getD j 0))] ?_ ?_))
 ·exact⟨fun h=>⟨h,by omega,by rw[Bool.and_eq_true]at h;exact of_decide_eq_true h.1⟩,fun h=>⟨h,by rw[Bool.and_eq_true]at h;have h0:=of_decide_eq_true h.1;omega⟩⟩
 refine .cB (fun h28=>?_) fun h28=>?_
 ·refine .skip (.block (.rg [] ?_))
  refine⟨j+1,?_,?_,?_⟩
  ·rw[Bool.and_eq_true,Bool.and_eq_true]at h28;have a:=of_decide_eq_true h28.1.1;have b:=of_decide_eq_true h28.1.2;have c:=beq_iff_eq.1 h28.2;have e:=a26_ (show j<s.length by omega) b c;exact⟨by omega,by omega,by omega⟩
  ·rw[Bool.and_eq_true,Bool.and_eq_true]at h28;have a:=of_decide_eq_true h28.1.1;omega
  refine Can.wh ?_;rw[ac_ (by omega) (by omega)];simp
 refine .exit (.seq (.rg [] ?_))
 refine .ret ⟨.inr rfl,Out.pP Tryz.results183 ?_⟩;(have e:=aqk_ (c:=s.getD k 0) (s:=s) (j:=j) (fun q=>by rw[decide_eq_true (show(j:Int)<s.length by omega),decide_eq_true q.2.1,q.2.2]at h28;simp at h28));rw[hE,show k+(1+exC (s.getD k 0) (s.drop (k+1)))=j by omega]
theorem am3_ (s:Str):(((s.length:Int)==1)&&decide (Lib.indexByte marks (s.getD 0 0) ≥ 0))=fm_ s:=by
 unfold fm_
 rw[show decide (Lib.indexByte marks (s.getD 0 0) ≥ 0)=marks.contains (s.getD 0 0)from lf_ marks _]
 congr 1
 ·rw[Bool.eq_iff_iff];simp;omega
 cases s<;>rfl
def n1_ (k:Int) (s:Str):Bool:=if k=1 then e4_ s else if k=2 then a8_ s else if k=3 then fm_ s else false
theorem aq1_ (k:Int) (s:Str) (hs:s.length≤281474976710656):ACall En 243 [.i .i64 k,.s s] [] [.b (n1_ k s)] []:=by
 refine aa_ [] Tryz.func243 Tryz.ntmps243 fun C=>?_
 refine .seq (.rg [] ?_)
 refine .seq (.seq (.rg [] ?_))
 refine .block (.seq (.rg [] ?_))
 refine .cB (fun h6=>?_) fun h6=>?_
 ·refine .seq (.rg [ab_ (aez_ s (by omega))] ?_)
  refine .ret ⟨.inr rfl,Out.pP Tryz.results243 ?_⟩;simp at h6;simp[n1_,h6]
 refine .seq (.rg [] ?_)
 refine .cB (fun h10=>?_) fun h10=>?_
 ·refine .seq (.rg [ab_ (akk_ s hs)] ?_)
  refine .ret ⟨.inr rfl,Out.pP Tryz.results243 ?_⟩;simp at h6 h10;simp[n1_,h10]
 refine .seq (.rg [] ?_)
 refine .cB (fun h14=>?_) fun h14=>?_
 ·refine .seq (.rgDo [ab_ yy_,a0_ (0<s.length) (fun _=>yw_ marks (s.getD 0 0) (by decide))] ?_ ?_)
  ·exact⟨fun h=>⟨h,by have:=beq_iff_eq.1 h;omega⟩,fun h=>⟨h,by have:=beq_iff_eq.1 h;omega⟩⟩
  refine .ret ⟨.inr rfl,Out.pP Tryz.results243 ?_⟩;simp at h6 h10 h14;simp[n1_,h14];rw[←am3_];simp
 refine .skip (.seq (.rg [] ?_))
 refine .ret ⟨.inr rfl,Out.pP Tryz.results243 ?_⟩;simp at h6 h10 h14;simp[n1_,h6,h10,h14]
theorem aif_ (s:Str) (hs:s.length≤281474976710656):ACall En 184 [.s s] [] [.i .i64 (cv_ s)] []:=by
 refine aa_ [] Tryz.func184 Tryz.ntmps184 fun C=>?_
 refine .seq (.rg [] ?_)
 refine .seq (.seq (.rg [] ?_))
 refine .block (.loopK (fun k:Nat=>⟨[.s s,.no,.no,.i .i64 k,.no,.no,.no,.no,.no,.no,.no,.no],ae_ [],us []⟩) (fun k:Nat=>1≤k∧k≤4∧(2≤k→e4_ s=false)∧(3≤k→a8_ s=false)∧(4≤k→fm_ s=false)) (fun k:Nat=>4 - k) (1) ?_ ?_ (fun k hI=>?_))
 ·exact⟨by decide,by decide,fun h=>by omega,fun h=>by omega,fun h=>by omega⟩
 ·refine Can.wh ?_;trivial
 refine .seq (.seq (.rg [] ?_))
 refine .cB (fun h5=>?_) fun h5=>?_
 ·refine .skip (.seq (.block (.seq (.rg [ab_ (aq1_ k s hs)] ?_))))
  refine .cB (fun h10=>?_) fun h10=>?_
  ·refine .seq (.rg [] ?_)
   refine .ret ⟨.inr rfl,Out.pP Tryz.results184 ?_⟩;simp only[decide_eq_true_eq]at h5;unfold cv_;rcases (show k=1∨k=2∨k=3 by omega)with e|e|e<;>subst e<;>simp[n1_]at h10;(simp[h10]);(simp[h10,hI.2.2.1 (by omega)]);(simp[h10,hI.2.2.1 (by omega),hI.2.2.2.1 (by omega)])
  refine .skip (.rg [] ?_)
  refine⟨k+1,?_,?_,?_⟩
  ·simp only[decide_eq_true_eq]at h5;rcases (show k=1∨k=2∨k=3 by omega)with e|e|e<;>subst e<;>simp[n1_]at h10;exact⟨by omega,by omega,fun _=>h10,fun h=>by omega,fun h=>by omega⟩;exact⟨by omega,by omega,fun _=>hI.2.2.1 (by omega),fun _=>h10,fun h=>by omega⟩;exact⟨by omega,by omega,fun _=>hI.2.2.1 (by omega),fun _=>hI.2.2.2.1 (by omega),fun _=>h10⟩
  ·simp at h5;omega
  refine Can.wh ?_;rw[ac_ (by omega) (by omega)];simp
 refine .exit (.seq (.rg [] ?_))
 refine .ret ⟨.inr rfl,Out.pP Tryz.results184 ?_⟩;simp only[decide_eq_false_iff_not]at h5;unfold cv_;simp[hI.2.2.1 (by omega),hI.2.2.2.1 (by omega),hI.2.2.2.2 (by omega)]
theorem afr_ {c:UInt8}:(ct_ c==1)=cd_ c:=by
 unfold ct_
 cases h:cd_ c with
 |true=>rfl
 |false=>simp only[Bool.false_eq_true,if_false];split<;>(try split)<;>(try split)<;>rfl
theorem ag4_ {c:UInt8}:(ct_ c==2)=b1_ c:=by
 unfold ct_
 cases h:cd_ c with
 |true=>rw[h7_ h];rfl
 |false=>
  simp only[Bool.false_eq_true,if_false]
  cases b1_ c with
  |true=>rfl
  |false=>simp only[Bool.false_eq_true,if_false];split<;>(try split)<;>rfl
theorem at6_ {c:UInt8} {l:Str} (h:ct_ c≠0) (h4:c≠32):cq_ (c::l)=d7_ (c::l):=by
 show 1+(if ct_ c<3 then(l.takeWhile fun x=>ct_ x==ct_ c).length else 0)=max 1 (max ((c::l).takeWhile cd_).length ((c::l).takeWhile b1_).length)
 cases hl:cd_ c with
 |true=>
  have e:ct_ c=1:=by unfold ct_;rw[if_pos hl]
  rw[e,if_pos (by decide),n2_ (h7_ hl),List.takeWhile_cons,if_pos hl]
  have:(fun x=>ct_ x==1)=cd_:=funext fun x=>afr_
  rw[this];simp;omega
 |false=>
  rw[n2_ (p:=cd_) hl]
  cases hd:b1_ c with
  |true=>
   have e:ct_ c=2:=by unfold ct_;rw[if_neg (by simp[hl]),if_pos hd]
   rw[e,if_pos (by decide),List.takeWhile_cons,if_pos hd]
   have:(fun x=>ct_ x==2)=b1_:=funext fun x=>ag4_
   rw[this];simp;omega
  |false=>
   rw[n2_ hd]
   have e:¬ct_ c<3:=by
    unfold ct_ at h ⊢
    rw[if_neg (by simp[hl]),if_neg (by simp[hd])]at h ⊢
    split
    ·decide
    rename_i hm;rw[if_neg hm,if_neg h4]at h;exact absurd rfl h
   rw[if_neg e];rfl
theorem aoj_ {c:UInt8} {l:Str} (h:ct_ c=0):cv_ (c::l)=0:=by
 unfold ct_ at h
 have hl:cd_ c=false:=by
  cases q:cd_ c with
  |true=>rw[q]at h;simp at h
  |false=>rfl
 have hd:b1_ c=false:=by
  cases q:b1_ c with
  |true=>rw[hl,q]at h;simp at h
  |false=>rfl
 have hm:marks.contains c=false:=by
  cases q:marks.contains c with
  |true=>rw[hl,hd,q]at h;simp at h
  |false=>rfl
 unfold cv_
 rw[if_neg,if_neg,if_neg]
 ·intro q;simp only[fm_,Bool.and_eq_true,List.headD_cons]at q;rw[hm]at q;exact absurd q.2 (by decide)
 ·intro q
  obtain⟨n,_,e⟩:=do_.1 q
  have:=(nd_ c).2 (c6_ n c (by rw[←e];simp))
  rw[hd]at this;cases this
 intro q;simp[e4_,hl]at q
theorem wl_ {l:Str} {k:Nat} (h:k<l.length) (col:Int):fp_ (l.drop k).length (l.drop k) col =
  if l.getD k 0=32 then fp_ (l.drop (k+cq_ (l.drop k))).length (l.drop (k+cq_ (l.drop k))) (col+cq_ (l.drop k))
  else if cv_ ((l.drop k).take (cq_ (l.drop k)))=0 then none
  else(fp_ (l.drop (k+cq_ (l.drop k))).length (l.drop (k+cq_ (l.drop k))) (col+cq_ (l.drop k))).map (⟨cv_ ((l.drop k).take (cq_ (l.drop k))),(l.drop k).take (cq_ (l.drop k)),col⟩::·):=by
 rw[tu_ h]
 have hd:=on_ h
 by_cases h32:l.getD k 0=32
 ·have e:cq_ (l.drop k)=1:=by
   rw[hd,cq_,h32];rfl
  rw[if_pos h32,if_pos h32,e];rfl
 rw[if_neg h32,if_neg h32]
 by_cases h0:ct_ (l.getD k 0)=0
 ·have p:∀m,1≤m→cv_ ((l.drop k).take m)=0:=fun m hm=>by
   rw[hd]
   obtain⟨m',rfl⟩:∃m',m=m'+1:=⟨m - 1,by omega⟩
   rw[List.take_succ_cons];exact aoj_ h0
  rw[if_pos (p _ (wl_b h).1),if_pos (p _ (od_ h).1)]
 have e:cq_ (l.drop k)=d7_ (l.drop k):=by rw[hd];exact at6_ h0 h32
 rw[e]
attribute [local go_sem] gv_ hs_ in
theorem wg_ (s:Str) (hs:s.length≤281474976710656):ACall En 121 [.s s] [] [.sl false (tkR ((az_ s).getD [])),.b (az_ s).isSome] []:=by
 refine aa_ [] Tryz.func121 Tryz.ntmps121 fun C=>?_
 refine .seq (.rg [] ?_)
 refine .seq (.rg [] ?_)
 refine .seq (.seq (.rg [] ?_))
 refine .cB (fun h11=>?_) fun h11=>?_
 ·refine .seq (.rg [] ?_)
  refine .ret ⟨.inr rfl,Out.pQ Tryz.results121 ?_⟩;simp only[decide_eq_true_eq]at h11;rw[pc_ (by omega)];simp[tkR,ler]
 refine .skip (.seq (.rg [] ?_))
 refine .seq (.block (.loopK (fun q:Nat × List Tk=>⟨[.s s,.no,.no,.no,.ow 60 3 0 q.2.length,.i .i64 q.1,.no,.no,.no,.no,.no,.no,.no,.no,.no,.no,.no,.no,.no,.no,.no,.no,.no,.no,.no,.no,.no,.no,.no,.no,.no,.no,.no,.no,.no,.no,.no,.no,.no,.no,.no,.no,.no,.no],ae_ [(60,⟨144,3,tkR q.2⟩)],us [60]⟩) (fun q:Nat × List Tk=>q.1≤s.length∧s.length≤120∧q.2.length≤q.1∧fp_ s.length s 0=(fp_ (s.drop q.1).length (s.drop q.1) q.1).map (q.2++·)) (fun q:Nat × List Tk=>s.length - q.1) ((0,[])) ?_ ?_ (fun q hI=>?_)))
 ·simp at h11;simp;omega
 ·refine Can.trans (Can.ownSlot 4 60 144 3 (by simp only[go_sem,seval]<;>rfl) (by simp only[go_sem,seval]) (by simp only[go_sem,seval]<;>rfl)) ?_
  refine Can.wk ?_ ?_
  ·trivial
  simp[tkR]
 refine .seq (.seq (.rg [] ?_))
 refine .cB (fun h16=>?_) fun h16=>?_
 ·refine .skip (.block (.seq (.rgo [a0_ (q.1<s.length∧s.length≤120) (fun h=>aw1_ s q.1 h.1 (by omega))] ?_ ?_)))
  ·((simp only[decide_eq_true_eq]at h16;have he:=od_ (show q.1<s.length by omega);first|exact⟨by omega,hI.2.1⟩|exact⟨by omega,by omega⟩|(refine⟨by omega,by omega,by omega,by omega,by simp⟩)|(refine⟨⟨⟨by omega,by omega,by omega,by omega,by simp⟩,rfl⟩,?_⟩;simp;omega)))
  refine .seqJ (fun p:List Tk=>⟨[.s s,.no,.no,.no,.ow 60 3 0 p.length,.no,.i .i64 ((q.1+cq_ (s.drop q.1):Nat):Int),.no,.no,.no,.no,.no,.no,.no,.no,.no,.no,.no,.no,.no,.no,.no,.no,.no,.no,.no,.no,.no,.no,.no,.no,.no,.no,.no,.no,.no,.no,.no,.no,.no,.no,.no,.no,.no],ae_ [(60,⟨144,3,tkR p⟩)],us [60]⟩) (fun p:List Tk=>p.length≤q.1+1∧fp_ s.length s 0=(fp_ (s.drop (q.1+cq_ (s.drop q.1))).length (s.drop (q.1+cq_ (s.drop q.1))) ((q.1+cq_ (s.drop q.1):Nat):Int)).map (p++·)) ?_ (fun p hJ=>?_)
  ·refine .seq (.rgo [] ?_ ?_)
   ·((simp only[decide_eq_true_eq]at h16;have he:=od_ (show q.1<s.length by omega);first|exact⟨by omega,hI.2.1⟩|exact⟨by omega,by omega⟩|(refine⟨by omega,by omega,by omega,by omega,by simp⟩)|(refine⟨⟨⟨by omega,by omega,by omega,by omega,by simp⟩,rfl⟩,?_⟩;simp;omega)))
   refine .cB (fun h23=>?_) fun h23=>?_
   ·refine .seq (.rgo [ab_ (aif_ ((s.drop q.1).take (cq_ (s.drop q.1))) (by simp;omega))] ?_ ?_ (h:=by simp only[go_sem,seval,v9_];rfl))
    ·((simp only[decide_eq_true_eq]at h16;have he:=od_ (show q.1<s.length by omega);first|exact⟨by omega,hI.2.1⟩|exact⟨by omega,by omega⟩|(refine⟨by omega,by omega,by omega,by omega,by simp⟩)|(refine⟨⟨⟨by omega,by omega,by omega,by omega,by simp⟩,rfl⟩,?_⟩;simp;omega)))
    refine .seq (.seq (.rg [] ?_))
    refine .cB (fun h30=>?_) fun h30=>?_
    ·refine .seq (.rg [] ?_)
     refine .ret ⟨.inr rfl,Out.pQ Tryz.results121 ?_⟩;simp only[decide_eq_true_eq]at h16;have e:=wl_ (show q.1<s.length by omega) q.1;rw[if_neg (fun h=>by have:=(jv_ (by omega)).1 h;rw[this]at h23;simp at h23),if_pos (by simpa using h30)]at e;rw[ii_ hI.2.1,hI.2.2.2,e];simp[tkR,ler]
    refine .skip (.rgo [] ?_ ?_ (h:=by simp only[go_sem,seval,v9_];rfl))
    ·((simp only[decide_eq_true_eq]at h16;have he:=od_ (show q.1<s.length by omega);first|exact⟨by omega,hI.2.1⟩|exact⟨by omega,by omega⟩|(refine⟨by omega,by omega,by omega,by omega,by simp⟩)|(refine⟨⟨⟨by omega,by omega,by omega,by omega,by simp⟩,rfl⟩,?_⟩;simp;omega)))
    refine Exists.intro (q.2++[⟨cv_ ((s.drop q.1).take (cq_ (s.drop q.1))),(s.drop q.1).take (cq_ (s.drop q.1)),q.1⟩]) ⟨?_,?_⟩
    ·simp only[decide_eq_true_eq]at h16;obtain⟨i1,i2,i3,i4⟩:=hI;have e:=wl_ (show q.1<s.length by omega) q.1;first|(rw[if_neg (fun h=>by have:=(jv_ (by omega)).1 h;rw[this]at h23;simp at h23),if_neg (by simpa using h30)]at e;exact⟨by simp only[List.length_append,List.length_singleton];omega,by rw[i4,e,Option.map_map];simp[Function.comp_def]⟩)|(rw[if_pos ((jv_ (by omega)).2 (by simpa using h23))]at e;exact⟨by omega,by rw[i4,e];rfl⟩)
    refine Can.trans (Can.sX 51 60) ?_
    refine Can.wk ?_ ?_
    ·(try simp)
    (try simp[adz_])
   refine .skip ?_
   refine⟨q.2,?_,?_⟩
   ·simp only[decide_eq_true_eq]at h16;obtain⟨i1,i2,i3,i4⟩:=hI;have e:=wl_ (show q.1<s.length by omega) q.1;first|(rw[if_neg (fun h=>by have:=(jv_ (by omega)).1 h;rw[this]at h23;simp at h23),if_neg (by simpa using h30)]at e;exact⟨by simp only[List.length_append,List.length_singleton];omega,by rw[i4,e,Option.map_map];simp[Function.comp_def]⟩)|(rw[if_pos ((jv_ (by omega)).2 (by simpa using h23))]at e;exact⟨by omega,by rw[i4,e];rfl⟩)
   refine Can.wk ?_ ?_
   ·trivial
   trivial
  refine .rg [] ?_
  refine Exists.intro ((q.1+cq_ (s.drop q.1),p)) ⟨?_,?_,?_⟩
  ·simp only[decide_eq_true_eq]at h16;have he:=od_ (show q.1<s.length by omega);exact⟨by dsimp only;omega,hI.2.1,by dsimp only;have:=hJ.1;omega,hJ.2⟩
  ·simp only[decide_eq_true_eq]at h16;have:=od_ (show q.1<s.length by omega);dsimp only;omega
  refine Can.wk ?_ ?_
  ·trivial
  trivial
 refine .exit (.seq (.rg [] ?_))
 refine .fX 60 ?_
 refine .ret ⟨.inr rfl,Out.pQ Tryz.results121 ?_⟩;simp only[decide_eq_false_iff_not]at h16;rw[ii_ hI.2.1,hI.2.2.2,z1_ (by omega)];simp[List.take_of_length_le,hs_,leV,ad_]
end
section
theorem h6_ {l:List Sg} {k:Nat} (h:k<l.length):(sgR l).getD k []=[.i .i64 (l.getD k G0).1,.i .i64 (l.getD k G0).2.1,.i .i64 (l.getD k G0).2.2.1,.i .i64 (l.getD k G0).2.2.2]:=azw_ h
theorem axi_ {α:Type} {d:α} {a b:List α} {k:Nat} (ha:k<a.length) (hb:k<b.length) (h:a.take k=b.take k) (e:a.getD k d=b.getD k d):a.take (k+1)=b.take (k+1):=by
 rw[List.take_add_one (l:=a),List.take_add_one (l:=b),h,List.getElem?_eq_getElem ha,List.getElem?_eq_getElem hb]
 rw[List.getD_eq_getElem?_getD,List.getD_eq_getElem?_getD,List.getElem?_eq_getElem ha,List.getElem?_eq_getElem hb]at e
 rw[show a[k]=b[k] by simpa using e]
theorem ak9_ (l c:Int):ACall En 217 [.ag [.i .i64 l,.i .i64 c]] [] [.b ((decide (0≤l)&&decide (l≤15))&&(decide (0≤c)&&decide (c≤119)))] []:=by
 refine aa_ [] Tryz.func217 Tryz.ntmps217 fun C=>?_
 refine .seq (.rg [] ?_)
 refine .seq (.rg [ab_ (ta_ l 0 15),ab_ (ta_ c 0 119)] ?_)
 refine .ret ⟨.inr rfl,Out.pP Tryz.results217 ?_⟩;trivial
theorem apg_ (a b c d:Int):ACall En 218 [.ag [.i .i64 a,.i .i64 b],.ag [.i .i64 c,.i .i64 d]] [] [.b (decide (a<c)||(a==c&&decide (b<d)))] []:=by
 refine aa_ [] Tryz.func218 Tryz.ntmps218 fun C=>?_
 refine .seq (.rg [] ?_)
 refine .seq (.rgo [] ?_ ?_)
 ·(exact⟨fun h=>⟨h,fun h2=>by rw[h,h2];rfl⟩,fun h=>by rw[h];rfl⟩)
 refine .ret ⟨.inr rfl,Out.pP Tryz.results218 ?_⟩;trivial
theorem a15_ {A B K:Bool} {P Q:Prop} (hP:(!(A||B)&&K)=true→P∧Q):(((A=false→(!A)=true)∧((!(A||B)&&K)=true→(!(A||B)&&K)=true∧P∧Q))∧((!(A||B))=true→(!(A||B))=true∧(K=true→(!(A||B)&&K)=true)))∧((A||B)=false→(!(A||B))=true):=
 ⟨⟨⟨fun h=>by rw[h];rfl,fun h=>⟨h,hP h⟩⟩,fun h=>⟨h,fun h2=>by rw[h,h2];rfl⟩⟩,fun h=>by rw[h];rfl⟩
theorem qj_ {l:List Sg} {k:Nat}:(!(decide (0≤(l.getD k G0).1)&&decide ((l.getD k G0).1≤15)&&(decide (0≤(l.getD k G0).2.1)&&decide ((l.getD k G0).2.1≤119)))||!(decide (0≤(l.getD k G0).2.2.1)&&decide ((l.getD k G0).2.2.1≤15)&&(decide (0≤(l.getD k G0).2.2.2)&&decide ((l.getD k G0).2.2.2≤119)))||decide ((k:Int) > 0)&&!(decide ((l.getD (k - 1) G0).1<(l.getD k G0).1)||(l.getD (k - 1) G0).1==(l.getD k G0).1&&decide ((l.getD (k - 1) G0).2.1<(l.getD k G0).2.1)))=!sj_ l k:=by
 unfold sj_
 have e:decide ((k:Int) > 0)=!decide (k=0):=by rw[←decide_not];exact decide_eq_decide.2 (by omega)
 have e2:((l.getD (k - 1) G0).1==(l.getD k G0).1)=decide ((l.getD (k - 1) G0).1=(l.getD k G0).1):=by rw[Bool.eq_iff_iff];simp
 rw[e,e2]
 simp only[Bool.not_and,Bool.not_or]
attribute [local go_sem] df_ cf_ in
theorem xb_ (l:List Sg) (hl:l.length≤1000000000000):ACall En 152 [.sl false (sgR l)] [] [.b (h2_ l)] []:=by
 refine aa_ [] Tryz.func152 Tryz.ntmps152 fun C=>?_
 refine .seq (.rg [] ?_)
 refine .seq (.seq (.rg [] ?_))
 refine .block (.loopK (fun k:Nat=>⟨[.sl false (sgR l),.no,.no,.no,.no,.sl false (sgR l),.i .i64 l.length,.i .i64 k,.no,.no,.no,.no,.no,.no,.no,.no,.no,.no,.no,.no,.no,.no,.no,.no,.no,.no,.no,.no,.no,.no,.no,.no,.no,.no,.no,.no,.no,.no,.no,.no,.no,.no],ae_ [],us []⟩) (fun k:Nat=>k≤l.length∧(List.range k).all (sj_ l)=true) (fun k:Nat=>l.length - k) (0) ?_ ?_ (fun k hI=>?_))
 ·exact⟨Nat.zero_le _,rfl⟩
 ·refine Can.wh ?_;trivial
 refine .seq (.rg [] ?_)
 refine .seq (.cB (fun h8=>?_) fun h8=>?_)
 ·refine .skip (.seq (.block (.seq (.rgo [] ?_ ?_ (h:=by simp only[go_sem,seval,h6_ (show k<l.length by simpa using h8)];rfl)))))
  ·((simp at h8;simp;omega))
  refine .seq (.rgDo [ab_ (ak9_ (l.getD k G0).1 (l.getD k G0).2.1),ab_ (ak9_ (l.getD k G0).2.2.1 (l.getD k G0).2.2.2),ab_ (apg_ (l.getD (k - 1) G0).1 (l.getD (k - 1) G0).2.1 (l.getD k G0).1 (l.getD k G0).2.1)] ?_ ?_ (h:=by simp only[go_sem,seval,show(IntKind.i64.wrap ((k:Int) - 1)).toNat=k - 1 by(simp at h8;by_cases h0:k=0<;>(try subst h0)<;>(try rw[ac_ (by omega) (by omega)])<;>omega),h6_ (show k - 1<l.length by simp at h8;omega)];rfl))
  ·((refine a15_ fun h=>?_;rw[Bool.and_eq_true]at h;have h0:=of_decide_eq_true h.2;simp at h8;rw[ac_ (by omega) (by omega)];omega))
  refine .cB (fun h37=>?_) fun h37=>?_
  ·refine .seq (.rg [] ?_)
   refine .ret ⟨.inr rfl,Out.pP Tryz.results152 ?_⟩;rw[qj_]at h37;simp at h8;(have e:(List.range l.length).all (sj_ l)=false:=(by rw[List.all_eq_false];exact⟨k,by simpa using h8,by simpa using h37⟩));unfold h2_;rw[e];rfl
  refine .skip (.rg [] ?_)
  refine⟨k+1,?_,?_,?_⟩
  ·rw[qj_]at h37;simp at h8;exact⟨by omega,by rw[List.range_succ,List.all_append,hI.2];simpa using h37⟩
  ·simp at h8;omega
  refine Can.wh ?_;rw[ac_ (by simp at h8;omega) (by simp at h8;omega)];simp
 refine .exit (.seq (.rg [] ?_))
 refine .ret ⟨.inr rfl,Out.pP Tryz.results152 ?_⟩;simp only[decide_eq_false_iff_not]at h8;(obtain rfl:k=l.length:=(by omega));unfold h2_;rw[hI.2,Bool.true_and,show decide ((l.length:Int)≤1280)=decide (l.length≤1280)from decide_eq_decide.2 (by omega)]
end
section
open Go.RowKit
attribute [local go_sem] aw_ a5_ hx_ k2_ df_ cf_ al_ in
theorem ahy_ (l:List Sg) (hs:h2_ l=true):ACall En 153 [.sl false (sgR l)] [] [.s (ij_ l l.length)] []:=by
 obtain⟨iB,i1,i2,i3⟩:=bldI
 have hl:=aqf_ hs
 have hP:=fun k (h:k≤l.length)=>ld_ hs k h
 refine aa_ [] Tryz.func153 Tryz.ntmps153 fun C=>?_
 refine .seq (.rg [] ?_)
 refine .seq (.rgSo [3] [yj_ En 39 13] ?_ ?_)
 ·exact⟨_,i1,i3⟩
 refine .seq (.rg [] ?_)
 refine .seq (.rg [] ?_)
 refine .seq (.seq (.rg [] ?_))
 refine .block (.loopK (fun k:Nat=>⟨[.no,.no,.no,.pt 13 2 0 0,.i .i64 (ahd l k).1,.i .i64 (ahd l k).2.1,.pt 16 2 0 0,.no,.no,.no,.sl false (sgR l),.i .i64 l.length,.i .i64 k,.no,.no,.no,.no,.no,.no,.no,.no,.no,.no,.no,.no,.no,.no,.no,.no,.no,.no,.no,.no,.no,.no,.no,.no,.no,.no,.no,.no,.no,.no,.no,.no,.no,.no,.no,.no,.no,.no,.no,.no,.no,.no,.no,.no,.no,.no,.no,.no,.no],ae_ [(13,⟨39,2,[[bA 13 k,bB 20 (ij_ l k).length]]⟩),(20,⟨5,1,byR (ij_ l k)⟩),(16,⟨80,2,[[.i .i64 (ahd l k).2.2.1,.i .i64 (ahd l k).2.2.2]]⟩)],us [13,20,16]⟩) (fun k:Nat=>k≤l.length) (fun k:Nat=>l.length - k) (0) ?_ ?_ (fun k hI=>?_))
 ·exact Nat.zero_le _
 ·refine Can.trans (Can.newName 20 5 1 (by simp only[go_sem,seval]<;>rfl) (by simp only[go_sem,seval]<;>rfl)) ?_
  refine Can.wk ?_ ?_
  ·exact⟨rfl,rfl⟩
  exact⟨rfl,rfl,rfl⟩
 refine .seq (.rg [] ?_)
 refine .seq (.cB (fun h13=>?_) fun h13=>?_)
 ·refine .skip (.seq (.block (.seq (.rgo [] ?_ ?_ (h:=by simp only[go_sem,seval,h6_ (show k<l.length by simpa using h13)];rfl)))))
  ·simp at h13;simp;omega
  refine .seqJ (fun u:Nat=>⟨[.no,.no,.no,.pt 13 2 0 0,.i .i64 (ahd l k).1,.i .i64 (ahd l k).2.1,.pt 16 2 0 0,.i .i64 k,.pt 18 4 0 0,.no,.sl false (sgR l),.i .i64 l.length,.i .i64 k,.no,.no,.no,.no,.no,.no,.no,.no,.no,.no,.no,.no,.no,.no,.no,.no,.no,.no,.no,.no,.no,.no,.no,.no,.no,.no,.no,.no,.no,.no,.no,.no,.no,.no,.no,.no,.no,.no,.no,.no,.no,.no,.no,.no,.no,.no,.no,.no,.no],ae_ [(13,⟨39,2,[[bA 13 u,bB 20 (lj_ l k 0).length]]⟩),(20,⟨5,1,byR (lj_ l k 0)⟩),(16,⟨80,2,[[.i .i64 (ahd l k).2.2.1,.i .i64 (ahd l k).2.2.2]]⟩),(18,⟨138,4,[[.i .i64 (l.getD k G0).1,.i .i64 (l.getD k G0).2.1,.i .i64 (l.getD k G0).2.2.1,.i .i64 (l.getD k G0).2.2.2]]⟩)],us [13,20,16,18]⟩) (fun u:Nat=>k<l.length) ?_ (fun u hJ=>?_)
  ·refine .seq (.rg [] ?_)
   refine .cB (fun h25=>?_) fun h25=>?_
   ·refine .rg [jb_ [13,20] [13,40] (dx_ k (ij_ l k).length (ij_ l k) [44] rfl (by have:=hP k (by omega);simp;omega))] ?_
    refine⟨1,?_,?_⟩
    ·simpa using h13
    refine Can.trans (Can.sX 40 20) ?_
    refine Can.wk ?_ ?_
    ·trivial
    (simp only[Bool.and_eq_true,beq_iff_eq,decide_eq_true_eq]at h25;rw[a2a_ (by omega) h25.2];simp;done)
   refine .skip ?_
   refine⟨k,?_,?_⟩
   ·simpa using h13
   refine Can.wk ?_ ?_
   ·trivial
   (rw[a2s_ fun q=>by rw[q.2]at h25;simp at h25;omega];exact⟨rfl,rfl⟩)
  refine .seq (.block (.loopK (fun q:Nat × Nat=>⟨[.no,.no,.no,.pt 13 2 0 0,.i .i64 ((ahd l k).1+q.1),.i .i64 (if q.1=0 then(ahd l k).2.1 else 0),.pt 16 2 0 0,.i .i64 k,.pt 18 4 0 0,.no,.sl false (sgR l),.i .i64 l.length,.i .i64 k,.no,.no,.no,.no,.no,.no,.no,.no,.no,.no,.no,.no,.no,.no,.no,.no,.no,.no,.no,.no,.no,.no,.no,.no,.no,.no,.no,.no,.no,.no,.no,.no,.no,.no,.no,.no,.no,.no,.no,.no,.no,.no,.no,.no,.no,.no,.no,.no,.no],ae_ [(13,⟨39,2,[[bA 13 q.2,bB 20 (lj_ l k q.1).length]]⟩),(20,⟨5,1,byR (lj_ l k q.1)⟩),(16,⟨80,2,[[.i .i64 (ahd l k).2.2.1,.i .i64 (ahd l k).2.2.2]]⟩),(18,⟨138,4,[[.i .i64 (l.getD k G0).1,.i .i64 (l.getD k G0).2.1,.i .i64 (l.getD k G0).2.2.1,.i .i64 (l.getD k G0).2.2.2]]⟩)],us [13,20,16,18]⟩) (fun q:Nat × Nat=>((q.1:Int)≤(l.getD k G0).1 - (ahd l k).1)) (fun q:Nat × Nat=>((l.getD k G0).1 - (ahd l k).1).toNat - q.1) ((0,u)) ?_ ?_ (fun q hI=>?_)))
  ·have:=mm_ hs hJ;dsimp only;omega
  ·refine Can.wk ?_ ?_
   ·simp
   trivial
  refine .seq (.seq (.rg [] ?_))
  refine .cB (fun h31=>?_) fun h31=>?_
  ·refine .skip (.seq (.block (.seq (.rg [jb_ [13,20] [13,41] (dx_ q.2 (lj_ l k q.1).length (lj_ l k q.1) [61] rfl (by have:=al9_ hs hJ hI;simp;omega))] ?_))))
   refine .rg [] ?_
   refine .rg [] ?_
   refine Exists.intro ((q.1+1,1)) ⟨?_,?_,?_⟩
   ·simp only[decide_eq_true_eq]at h31;dsimp only;omega
   ·simp only[decide_eq_true_eq]at h31;dsimp only;omega
   refine Can.trans (Can.sX 41 20) ?_
   refine Can.wk ?_ ?_
   ·have:=ll_ hs hJ;have:=mm_ hs hJ;simp only[decide_eq_true_eq]at h31;rw[ac_ (by omega) (by omega)];omega
   rw[asr_];simp
  refine .exit (.seq (.rgo [ab_ (agu_ (seg3 l k) (by simp[axu_])),jb_ [13,20] [13,42] (dx_ q.2 (lj_ l k q.1).length (lj_ l k q.1) (lk_ (seg3 l k)) rfl (by have:=al9_ hs hJ hI;have:=wa_ (seg3 l k);have e:(seg3 l k).length=3:=rfl;omega))] ?_ ?_))
  ·simp only[decide_eq_false_iff_not]at h31;have:=ll_ hs hJ;have:=mm_ hs hJ;rw[wp_ (show(ahd l k).1+q.1=(l.getD k G0).1 by omega)];have hc:0≤xh_ l k∧xh_ l k≤119:=(by unfold xh_;split<;>omega);rw[ac_ (by omega) (by omega),ac_ (by omega) (by omega),ac_ (by omega) (by omega)];exact⟨ad_ _,by decide,by decide⟩
  refine .rgD [] ?_
  refine .rg [] ?_
  refine⟨k+1,?_,?_,?_⟩
  ·simp only[decide_eq_true_eq]at h13;omega
  ·simp only[decide_eq_true_eq]at h13;omega
  refine Can.trans (Can.sX 42 20) ?_
  refine Can.wk ?_ ?_
  ·simp only[decide_eq_false_iff_not]at h31;rw[ac_ (by omega) (by omega),aac_];exact⟨by omega,rfl,rfl⟩
  simp only[decide_eq_false_iff_not]at h31;rw[ac4_,←ate_ (show(ahd l k).1+q.1=(l.getD k G0).1 by omega),aac_];simp[bA]
 refine .exit (.seq (.rg [jb_ [13,20] [13] (lx_ k (ij_ l k).length (ij_ l k) rfl (by have:=hP k (by omega);omega))] ?_))
 refine .ret ⟨.inr rfl,Out.pQ Tryz.results153 ?_⟩;simp only[decide_eq_false_iff_not]at h13;(obtain rfl:k=l.length:=(by omega));rfl
attribute [local go_sem] cf_ in
theorem ai0_ (l:List Sg) (hl:l.length≤1000000000):ACall En 84 [.sl false (sgR l)] [] [.s (mapT l)] []:=by
 refine aa_ [] Tryz.func84 Tryz.ntmps84 fun C=>?_
 refine .seq (.rg [] ?_)
 refine .seq (.seq (.rg [ab_ (xb_ l (by omega))] ?_))
 refine .cB (fun h5=>?_) fun h5=>?_
 ·refine .seq (.rg [] ?_)
  refine .ret ⟨.inr rfl,Out.pP Tryz.results84 ?_⟩;simp at h5;simp[mapT,h5]
 refine .skip (.seq (.rgo [a0_ (h2_ l=true) (fun h=>ahy_ l h)] ?_ ?_))
 ·((simpa using h5))
 refine .ret ⟨.inr rfl,Out.pP Tryz.results84 ?_⟩;simp at h5;simp[mapT,h5]
end
section
open Go.RowKit Go.Shelf
attribute [local go_sem] Oper.semAt_some
abbrev sgV (x:Sg):Value:=.agg #[.int .i64 x.1,.int .i64 x.2.1,.int .i64 x.2.2.1,.int .i64 x.2.2.2]
def sgAt (W:World) (b o:Nat) (x:Sg):Prop:=W.cell? ⟨b,o,none⟩=some (.int .i64 x.1)∧W.cell? ⟨b,o+1,none⟩=some (.int .i64 x.2.1)∧W.cell? ⟨b,o+2,none⟩=some (.int .i64 x.2.2.1)∧W.cell? ⟨b,o+3,none⟩=some (.int .i64 x.2.2.2)
abbrev bkG (x:Int × Sg):Array Value:=#[.int .i64 x.1,sgV x.2]
abbrev bkH (l:List Sg) (j:Nat):Int × Sg:=((j:Int),l.getD j G0)
set_option maxRecDepth 100000 in
set_option maxHeartbeats 4000000 in
theorem aof_ (F:Fence) (n:Nat) (h7:F.fn 283) (hro:F.round=none) (hn:1≤n) (l Bs n₀ b off cap:Nat) (zs:List Sg) (hreach:zs.length * 16≤140737488351232) (hb:b<n₀) (J Jx:List (Int × Sg)→World→Prop)
  (hY:∀pre x W,J pre W→pre.length<zs.length→YieldAt F (n - 1) Tryz.prog l (bkG x) W fun e W'=>
   (e = .returned (.bool true)∧J (pre++[x]) W'∧Below n₀ W W')∨(e = .returned (.bool false)∧Jx (pre++[x]) W'))
  (W:World) (hBn:Bs<n₀) (hBs:W.cell? ⟨Bs,0,none⟩=some (.slice (some ⟨b,off,none⟩) zs.length cap)) (hc:∀j,j<zs.length→sgAt W b (off+j * 4) (zs.getD j G0)) (h0:J [] W) :
  CallsIn F n Tryz.prog 283 #[.func (.yield l) #[] #[],.pointer (some ⟨Bs,0,none⟩)] W fun e W'=>(∃v,e = .returned v)∧
   ((∃ys,ys=gq_ (bkH zs) zs.length 0∧J ys W')∨(∃pre,(∃k,k≤zs.length∧pre=gq_ (bkH zs) zs.length k)∧Jx pre W')):=by
 refine callsIn_of_wp Tryz.func283 rfl h7 ?_ hro
 simp only[Tryz.ntmps283,List.size_toArray,List.length_cons,List.length_nil,Nat.reduceAdd,Nat.reduceSub,Array.replicate_succ,Array.replicate_zero,List.push_toArray,List.append_toArray,List.nil_append,List.cons_append]
 gi_wp2
 gi_loopw [3] (fun i wr=>∃m:Nat,m≤zs.length∧i = .int .i64 ((m:Int) - 1)∧J (gq_ (bkH zs) zs.length m) wr∧Below n₀ W wr)
  (fun i _=>(intOf i+1).toNat)
 case atStart=>exact⟨zs.length,Nat.le_refl _,by first|rfl|simp[ac_ (show -9223372036854775808≤(zs.length:Int) - 1 by omega) (by omega)],by rw[mv_];exact h0,Below.refl _ _⟩
 case round=>
  obtain⟨m,hk,rfl,hJs,hnx⟩:=hrel
  have hBx:wr.cell? ⟨Bs,0,none⟩=some (.slice (some ⟨b,off,none⟩) zs.length cap):=(hnx.cell (p:=⟨Bs,0,none⟩) hBn).trans hBs
  cases m with
  |zero=>
   gi_wp2
   go_end0
   exact⟨⟨_,rfl⟩,.inl ⟨_,rfl,hJs⟩⟩
  |succ j=>
   have hi:(((j+1:Nat):Int) - 1)=(j:Int):=by omega
   rw[hi]
   obtain⟨d0,d1,d2,d3⟩:=hc j (by omega)
   have hcx0:=(hnx.cell (p:=⟨b,off+j * 4,none⟩) hb).trans d0
   have hcx1:=(hnx.cell (p:=⟨b,off+j * 4+1,none⟩) hb).trans d1
   have hcx2:=(hnx.cell (p:=⟨b,off+j * 4+2,none⟩) hb).trans d2
   have hcx3:=(hnx.cell (p:=⟨b,off+j * 4+3,none⟩) hb).trans d3
   clear d0 d1 d2 d3
   have hjl:j<zs.length:=by omega
   have hst:=k4_ (bkH zs) hjl
   simp only[bkH]at hst
   generalize zs.getD j G0=v at hcx0 hcx1 hcx2 hcx3 hst
   obtain⟨fn,tmps,assign,body,hy,hR⟩:=hY _ ((j:Int),v) wr hJs (by rw[xt_];omega)
   dsimp only[bkG]at hy
   gi_wp2
   refine hR.mono ?_
   rintro e W3 (⟨rfl,hJ3,hk3⟩|⟨rfl,hJx3⟩)
   ·gi_wp2
    go_roundw
    case rel=>exact⟨j,by omega,by simp,by rw[hst];exact hJ3,hnx.trans hk3⟩
    case measure=>simp[intOf]<;>omega
   gi_wp2
   refine bodyPost_ret (results_none rfl _ _ _) rfl ?_
   exact⟨⟨_,rfl⟩,.inr ⟨_,⟨j,by omega,hst.symm⟩,hJx3⟩⟩
theorem aps_ (F:Fence) (n:Nat) (h5:F.fn 236) (hro:F.round=none) (a:Option Addr) (len cap:Nat) (w:World) :
  CallsIn F n Tryz.prog 236 #[.slice a len cap] w fun e w'=>e = .returned (.func (.func 283) #[] #[.pointer (some ⟨w.heap.size,0,none⟩)])∧w'=w.alloc (.cells #[.slice a len cap] 97):=by
 refine callsIn_of_wp Tryz.func236 rfl h5 ?_ hro
 simp only[Tryz.ntmps236,List.size_toArray,List.length_cons,List.length_nil,Nat.reduceAdd,Nat.reduceSub,Array.replicate_succ,Array.replicate_zero,List.push_toArray,List.append_toArray,List.nil_append,List.cons_append]
 gi_wp2
 go_ret
 exact⟨rfl,rfl⟩
set_option maxRecDepth 100000 in
set_option maxHeartbeats 1000000 in
theorem xf_ (F:Fence) (n:Nat) (h7:F.fn 283) (hro:F.round=none) (l Bs:Nat) (a:Option Addr) (cap:Nat) (J:List (Int × Sg)→World→Prop) (W:World) (hBs:W.cell? ⟨Bs,0,none⟩=some (.slice a 0 cap)) (h0:J [] W) :
  CallsIn F n Tryz.prog 283 #[.func (.yield l) #[] #[],.pointer (some ⟨Bs,0,none⟩)] W fun e W'=>(∃v,e = .returned v)∧J [] W':=by
 refine callsIn_of_wp Tryz.func283 rfl h7 ?_ hro
 simp only[Tryz.ntmps283,List.size_toArray,List.length_cons,List.length_nil,Nat.reduceAdd,Nat.reduceSub,Array.replicate_succ,Array.replicate_zero,List.push_toArray,List.append_toArray,List.nil_append,List.cons_append]
 gi_wp2
 gi_loopw [3] (fun i wr=>i = .int .i64 (-1)∧J [] wr) (fun _ _=>0)
 case atStart=>exact⟨rfl,h0⟩
 case round=>
  obtain⟨rfl,hJs⟩:=hrel
  gi_wp2
  go_end0
  exact⟨⟨_,rfl⟩,hJs⟩
end
section
open Go.RowKit Go.Shelf
attribute [local go_sem] Oper.semAt_some
def SegsAt (n₀:Nat) (W:World) (sv:Value) (zs:List Sg):Prop:=
 ∃A cap,sv = .slice A zs.length cap∧(zs≠[]→∃b off,A=some ⟨b,off,none⟩∧b<n₀∧∀j,j<zs.length→sgAt W b (off+j * 4) (zs.getD j G0))
theorem sgAt.below {n₀ b o:Nat} {A B:World} {x:Sg} (h:Below n₀ A B) (hb:b<n₀):sgAt A b o x→sgAt B b o x
 |⟨h0,h1,h2,h3⟩=>⟨(h.cell (p:=⟨b,o,none⟩) hb).trans h0,(h.cell (p:=⟨b,o+1,none⟩) hb).trans h1,(h.cell (p:=⟨b,o+2,none⟩) hb).trans h2,(h.cell (p:=⟨b,o+3,none⟩) hb).trans h3⟩
theorem SegsAt.below {n₀:Nat} {A B:World} (h:Below n₀ A B) {sv:Value} {zs:List Sg}:SegsAt n₀ A sv zs→SegsAt n₀ B sv zs
 |⟨a,cap,e,k⟩=>⟨a,cap,e,fun hne=>let ⟨b,off,e2,hb,hc⟩:=k hne;⟨b,off,e2,hb,fun j hj=>(hc j hj).below h hb⟩⟩
theorem afn_ (F:Fence) (n:Nat) (h7:F.fn 283) (hro:F.round=none) (hn:1≤n) (Bs n₀:Nat) (sv:Value) (zs:List Sg) (hreach:zs.length * 16≤140737488351232) (w:World) (hBs:Bs<w.heap.size) (hn₀:n₀≤w.heap.size) (hBn:Bs<n₀)
  (hc:w.cell? ⟨Bs,0,none⟩=some sv) (hI:SegsAt n₀ w sv zs) :
  SeqStopsK F n Tryz.prog 283 #[.pointer (some ⟨Bs,0,none⟩)] bkG (Below n₀) (fun ys=>ys=gq_ (bkH zs) zs.length 0) (fun pre=>∃k,k≤zs.length∧pre=gq_ (bkH zs) zs.length k) zs.length w:=fun l J Jx W hW _ _ hY h0=>by
 have hc':=(hW.cell (p:=⟨Bs,0,none⟩) hBs).trans hc
 obtain⟨A,cap,rfl,hne⟩:=hI.below (hW.mono hn₀)
 by_cases hz:zs=[]
 ·subst hz
  exact(xf_ F n h7 hro l Bs A cap J W hc' h0).mono fun e W' ⟨he,hj⟩=>⟨he,.inl ⟨_,rfl,hj⟩⟩
 obtain⟨b,off,rfl,hb,hcs⟩:=hne hz
 exact aof_ F n h7 hro hn l Bs n₀ b off cap zs hreach hb J Jx hY W hBn hc' hcs h0
def BoxA (W:World) (B:Nat) (t:TypeId) (vs:Array Value):Prop:=W.heap[B]? = some (.cells vs t (0,0))
theorem BoxA.lt {W:World} {B:Nat} {t:TypeId} {vs:Array Value} (h:BoxA W B t vs):B<W.heap.size:=(Array.getElem?_eq_some_iff.1 h).1
theorem BoxA.cell {W:World} {B:Nat} {t:TypeId} {vs:Array Value} (h:BoxA W B t vs) (j:Nat):W.cell? ⟨B,j,none⟩=vs[j]?:=by simp[World.cell?,show W.heap[B]? = _ from h]
theorem BoxA.frozen {W:World} {B:Nat} {t:TypeId} {vs:Array Value} (h:BoxA W B t vs) (j:Nat):W.frozen? ⟨B,j,none⟩=false:=by simp[World.frozen?,show W.heap[B]? = _ from h]
theorem BoxA.new (W:World) (t:TypeId) (vs:Array Value):BoxA (W.alloc (.cells vs t)) W.heap.size t vs:=World.alloc_heap_new W _
theorem BoxA.kept {W W':World} {row:Option Nat} {B:Nat} {t:TypeId} {vs:Array Value} (h:BoxA W B t vs) (hg:W.grownBy W' row) (hne:some B≠row):BoxA W' B t vs:=(hg.block B h.lt hne).trans h
theorem BoxA.alloc {W:World} {B:Nat} {t:TypeId} {vs:Array Value} (h:BoxA W B t vs) (o:Obj):BoxA (W.alloc o) B t vs:=h.kept (World.grownBy_alloc W o none) (by simp)
theorem i2_ {β:Type} (B:Nat) (t:TypeId) (f:β→Array Value):Own (fun s W=>BoxA W B t (f s)):=fun s X Y row hs hg hrow=>
 hs.kept hg (fun e'=>by obtain⟨o,ho,hc⟩:=hrow B e'.symm;rw[show X.heap[B]? = _ from hs]at ho;cases ho;cases hc)
theorem BoxA.set0 {W:World} {B:Nat} {t:TypeId} {x y:Value} (v:Value) (h:BoxA W B t #[x,y]):BoxA (W.setCell ⟨B,0,none⟩ v) B t #[v,y]:=by
 obtain⟨hlt,hk⟩:=Array.getElem?_eq_some_iff.1 h
 show(W.heap.modify B _)[B]? = _
 rw[Array.getElem?_eq_getElem (by rw[Array.size_modify];exact hlt),Array.getElem_modify_self,hk]
 rfl
theorem BoxA.set1 {W:World} {B:Nat} {t:TypeId} {x y:Value} (v:Value) (h:BoxA W B t #[x,y]):BoxA (W.setCell ⟨B,1,none⟩ v) B t #[x,v]:=by
 obtain⟨hlt,hk⟩:=Array.getElem?_eq_some_iff.1 h
 show(W.heap.modify B _)[B]? = _
 rw[Array.getElem?_eq_getElem (by rw[Array.size_modify];exact hlt),Array.getElem_modify_self,hk]
 rfl
theorem BoxA.setT {W:World} {B:Nat} {t:TypeId} {x:Value} (v:Value) (h:BoxA W B t #[x]):BoxA (W.setCell ⟨B,0,none⟩ v) B t #[v]:=by
 obtain⟨hlt,hk⟩:=Array.getElem?_eq_some_iff.1 h
 show(W.heap.modify B _)[B]? = _
 rw[Array.getElem?_eq_getElem (by rw[Array.size_modify];exact hlt),Array.getElem_modify_self,hk]
 rfl
theorem BoxA.other {W:World} {B B' j:Nat} {t:TypeId} {vs:Array Value} (v:Value) (h:BoxA W B t vs) (hne:B≠B'):BoxA (W.setCell ⟨B',j,none⟩ v) B t vs:=(Below.heap_setCell _ _ _ B (fun e=>hne (by first|exact e|exact e.symm))).trans h
def aai_ (L c:Int) (pre:List (Int × Sg)):Prop:=∀p∈pre,¬(p.2.1=L∧p.2.2.1≤c)
def a5p_ (L c:Int) (B:Nat) (t:TypeId) (pre:List (Int × Sg)) (W:World):Prop:=∃ini last,pre=ini++[last]∧aai_ L c ini∧(last.2.1=L∧last.2.2.1≤c)∧BoxA W B t #[.int .i64 last.2.2.2.1,.int .i64 last.2.2.2.2]
theorem ahe_ {L c:Int} {pre:List (Int × Sg)} {x:Int × Sg} (h:aai_ L c pre) (hx:¬(x.2.1=L∧x.2.2.1≤c)):aai_ L c (pre++[x]):=fun p hp=>by
 rcases List.mem_append.1 hp with hp|hp
 ·exact h p hp
 rw[List.mem_singleton]at hp;subst hp;exact hx
def a0j_:Option Sg→Value
 |some x=>.tuple #[.agg #[.int .i64 x.2.2.1,.int .i64 x.2.2.2],.bool true]
 |none=>.tuple #[.agg #[.int .i64 0,.int .i64 0],.bool false]
theorem w0_ {l:List Sg} {L c:Int}:∀n,(∀j,j<n→¬((l.getD j G0).1=L∧(l.getD j G0).2.1≤c))→lp_ l L c n=none
 |0,_=>rfl
 |n+1,h=>by
  rw[lp_,if_neg (h n (by omega))]
  exact w0_ n fun j hj=>h j (by omega)
set_option maxRecDepth 100000 in
set_option maxHeartbeats 4000000 in
theorem azc_ (F:Fence) (n:Nat) (h4:F.fn 165) (h6:F.fn 236) (h8:F.fn 283) (hro:F.round=none) (hn:3≤n) (a:Option Addr) (cap:Nat) (zs:List Sg) (L c:Int) (hreach:zs.length * 16≤140737488351232) (w:World) (hI:SegsAt w.heap.size w (.slice a zs.length cap) zs) :
  CallsIn F n Tryz.prog 165 #[.slice a zs.length cap,.agg #[.int .i64 L,.int .i64 c]] w fun e W'=>e = .returned (a0j_ (p0_ zs L c))∧Below w.heap.size w W':=by
 have h1:1≤n:=by omega
 refine callsIn_of_wp_marks Tryz.func165 rfl h4 ?_ hro
 simp only[Tryz.ntmps165,List.size_toArray,List.length_cons,List.length_nil,Nat.reduceAdd,Nat.reduceSub,Array.replicate_succ,Array.replicate_zero,List.push_toArray,List.append_toArray,List.nil_append,List.cons_append]
 gi_wp2_with (gi_at_call 236;refine(aps_ F (n - 1) h6 hro _ _ _ _).mono ?_;rintro e w' ⟨rfl,rfl⟩)
 have bP:=(((BoxA.new w 80 #[.int .i64 L,.int .i64 c]).alloc (.cells #[.int .i64 0,.int .i64 0] 80)).alloc (.cells #[.bool false] 4)).alloc (.cells #[.slice a zs.length cap] 97)
 have bR:=((BoxA.new (w.alloc (.cells #[.int .i64 L,.int .i64 c] 80)) 80 #[.int .i64 0,.int .i64 0]).alloc (.cells #[.bool false] 4)).alloc (.cells #[.slice a zs.length cap] 97)
 have bT:=(BoxA.new ((w.alloc (.cells #[.int .i64 L,.int .i64 c] 80)).alloc (.cells #[.int .i64 0,.int .i64 0] 80)) 4 #[.bool false]).alloc (.cells #[.slice a zs.length cap] 97)
 have bS:=BoxA.new (((w.alloc (.cells #[.int .i64 L,.int .i64 c] 80)).alloc (.cells #[.int .i64 0,.int .i64 0] 80)).alloc (.cells #[.bool false] 4)) 97 #[.slice a zs.length cap]
 simp only[World.size_alloc]at bR bT bS
 have hB0:Below w.heap.size w ((((w.alloc (.cells #[.int .i64 L,.int .i64 c] 80)).alloc (.cells #[.int .i64 0,.int .i64 0] 80)).alloc (.cells #[.bool false] 4)).alloc (.cells #[.slice a zs.length cap] 97)):=((((Below.refl _ w).alloc (Nat.le_refl _) _).alloc (by simp) _).alloc (by simp only[World.size_alloc];omega) _).alloc (by simp only[World.size_alloc];omega) _
 have hsz:((((w.alloc (.cells #[.int .i64 L,.int .i64 c] 80)).alloc (.cells #[.int .i64 0,.int .i64 0] 80)).alloc (.cells #[.bool false] 4)).alloc (.cells #[.slice a zs.length cap] 97)).heap.size=w.heap.size+4:=by simp
 obtain⟨W0,hW0⟩:∃W0,((((w.alloc (.cells #[.int .i64 L,.int .i64 c] 80)).alloc (.cells #[.int .i64 0,.int .i64 0] 80)).alloc (.cells #[.bool false] 4)).alloc (.cells #[.slice a zs.length cap] 97))=W0:=⟨_,rfl⟩
 rw[hW0]at bP bR bT bS hB0 hsz ⊢
 clear hW0
 refine wpIn_rangeFunc_ownH hro h1 (gf:=283) (lb:=#[.pointer (some ⟨w.heap.size+1+1+1,0,none⟩)]) rfl h8 (enters_of Tryz.func283 (by kernel_rfl) rfl)
  (afn_ F (n - 1) h8 hro (by omega) (w.heap.size+1+1+1) (w.heap.size+4) _ zs hreach W0 (by omega) (by omega) (by omega) (bS.cell 0) (by obtain⟨A,c',e,k⟩:=hI.below hB0;exact⟨A,c',e,fun hne=>let ⟨b,off,e2,hb,hc⟩:=k hne;⟨b,off,e2,by omega,hc⟩⟩)) belowK_t (belowK_b (by omega)) (Below.refl _ _) (fun _=>rfl)
  (fun pre W=>((((aai_ L c pre∧BoxA W w.heap.size 80 #[.int .i64 L,.int .i64 c])∧BoxA W (w.heap.size+1) 80 #[.int .i64 0,.int .i64 0])∧BoxA W (w.heap.size+1+1) 4 #[.bool false])∧BoxA W (w.heap.size+1+1+1) 97 #[.slice a zs.length cap])∧Below w.heap.size w W)
  (fun e pre W=>((e = .ret∧a5p_ L c (w.heap.size+1) 80 pre W)∧BoxA W (w.heap.size+1+1) 4 #[.bool true])∧Below w.heap.size w W)
  (OwnFrom.and (OwnFrom.and (OwnFrom.and (OwnFrom.and (OwnFrom.and (ownFrom_pure _ _) (Own.from (i2_ _ _ _) _)) (Own.from (i2_ _ _ _) _)) (Own.from (i2_ _ _ _) _)) (Own.from (i2_ _ _ _) _)) (ownFrom_below (Nat.le_refl _) (by omega)))
  (fun e=>OwnFrom.and (OwnFrom.and (fun s X Y row hs hg hr=>by obtain⟨e1,ini,last,e2,e3,e4,e5⟩:=hs;exact⟨e1,ini,last,e2,e3,e4,i2_ _ _ (fun(_:Unit)=>_) () X Y row e5 hg (fun r e=>(hr r e).2)⟩) (Own.from (i2_ _ _ _) _)) (ownFrom_below (Nat.le_refl _) (by omega)))
  ⟨⟨⟨⟨⟨fun p hp=>by simp at hp,bP⟩,bR⟩,bT⟩,bS⟩,hB0⟩
  (fun x a' W=>∃Bx,w.heap.size+1+1<Bx∧BoxA W Bx 138 #[.int .i64 x.2.1,.int .i64 x.2.2.1,.int .i64 x.2.2.2.1,.int .i64 x.2.2.2.2]∧a'={ tmps:=#[.slice a zs.length cap,.agg #[.int .i64 L,.int .i64 c],undef,.pointer (some ⟨w.heap.size,0,none⟩),.pointer (some ⟨w.heap.size+1,0,none⟩),.pointer (some ⟨w.heap.size+1+1,0,none⟩),undef,.pointer (some ⟨Bx,0,none⟩),.slice a zs.length cap,.func (.func 283) #[] #[.pointer (some ⟨w.heap.size+1+1+1,0,none⟩)],.int .i64 x.1,sgV x.2,undef,undef,undef,undef,undef,undef,undef,undef,undef,undef,undef,undef,undef,undef,undef,undef,undef],defers:=[] })
  (fun x a' _ X Y row hs hg hr=>by obtain⟨Bx,e1,e2,e3⟩:=hs;exact⟨Bx,e1,i2_ Bx _ (fun(_:Unit)=>_) () X Y row e2 hg (fun r e=>(hr r e).2),e3⟩)
  ?assign ?body ?done ?stop
 case assign=>
  rintro l pre x W K ⟨⟨⟨⟨⟨hp,bP1⟩,bR1⟩,bT1⟩,bS1⟩,hB1⟩ hK
  have hlt1:=bS1.lt
  gi_wp2
  exact hK _ _ ((KeepsOthers.alloc _ _).from _) ((Below.refl _ W).alloc (by omega) _) ⟨⟨⟨⟨⟨hp,bP1.alloc _⟩,bR1.alloc _⟩,bT1.alloc _⟩,bS1.alloc _⟩,hB1.alloc hB1.size _⟩ ⟨W.heap.size,bT1.lt,BoxA.new W _ _,rfl⟩
 case body=>
  rintro l pre ⟨x0,x1,x2,x3,x4⟩ a' W hl ⟨r,hr⟩ ⟨⟨⟨⟨⟨hp,bP1⟩,bR1⟩,bT1⟩,bS1⟩,hB1⟩ ⟨Bx,hBx,bX,rfl⟩ hlt
  have cP0:=bP1.cell 0
  have cP1:=bP1.cell 1
  have cX0:=bX.cell 0
  have cX1:=bX.cell 1
  have cX2:=bX.cell 2
  have cX3:=bX.cell 3
  have cR0:=bR1.cell 0
  have cR1:=bR1.cell 1
  have fR0:=bR1.frozen 0
  have fR1:=bR1.frozen 1
  have cT0:=bT1.cell 0
  have fT0:=bT1.frozen 0
  simp at cP0 cP1 cX0 cX1 cX2 cX3 cR0 cR1 cT0
  gi_wp2
  ·exact⟨(((KeepsOthers.setCell _ _ _).from _).trans ((KeepsOthers.setCell _ _ _).from _)).trans ((KeepsOthers.setCell _ _ _).from _),⟨⟨rfl,pre,_,rfl,hp,⟨by first|rfl|(simp_all;done),by first|assumption|(simp_all;done)⟩,((bR1.set0 _).set1 _).other _ (by omega)⟩,((bT1.other _ (by omega)).other _ (by omega)).setT _⟩,((hB1.setCell (p:=⟨w.heap.size+1,0,none⟩) (by simp) _).setCell (p:=⟨w.heap.size+1,1,none⟩) (by simp) _).setCell (p:=⟨w.heap.size+1+1,0,none⟩) (by simp;omega) _⟩
  all_goals exact⟨KeepsFrom.refl _ _,Below.refl _ _,⟨⟨⟨⟨ahe_ hp (by simp_all<;>omega),bP1⟩,bR1⟩,bT1⟩,bS1⟩,hB1⟩
 case done=>
  rintro D ys W hD rfl ⟨⟨⟨⟨⟨hp,bP1⟩,bR1⟩,bT1⟩,bS1⟩,hB1⟩ hK
  have cR0:=bR1.cell 0
  have cR1:=bR1.cell 1
  have fR0:=bR1.frozen 0
  have fR1:=bR1.frozen 1
  have cT0:=bT1.cell 0
  have fT0:=bT1.frozen 0
  simp at cR0 cR1 cT0
  gi_wp2
  have hK1:=(KeepsOthers.setCell W ⟨w.heap.size+1,0,none⟩ (.int .i64 0)).same D _ hK rfl
  have hK2:=(KeepsOthers.setCell _ ⟨w.heap.size+1,1,none⟩ (.int .i64 0)).same D _ hK1 rfl
  have hK3:=(KeepsOthers.setCell _ ⟨w.heap.size+1+1,0,none⟩ (.bool false)).same D _ hK2 rfl
  have bR3:=(((bR1.set0 (.int .i64 0)).set1 (.int .i64 0)).other (B':=w.heap.size+1+1) (j:=0) (.bool false) (by omega)).kept (grownBy_putObj' _ D (.deferred none)) (by simp;omega)
  have bT3:=(((bT1.other (B':=w.heap.size+1) (j:=0) (.int .i64 0) (by omega)).other (B':=w.heap.size+1) (j:=1) (.int .i64 0) (by omega)).setT (.bool false)).kept (grownBy_putObj' _ D (.deferred none)) (by simp;omega)
  have c0:=bR3.cell 0
  have c1:=bR3.cell 1
  have c2:=bT3.cell 0
  simp at c0 c1 c2
  refine⟨by simp,.inl ⟨_,_,rfl,run_takeDeferred hK3,?_⟩⟩
  refine⟨.tuple #[.agg #[.int .i64 0,.int .i64 0],.bool false],?_,?_,(((hB1.setCell (p:=⟨w.heap.size+1,0,none⟩) (by simp) _).setCell (p:=⟨w.heap.size+1,1,none⟩) (by simp) _).setCell (p:=⟨w.heap.size+1+1,0,none⟩) (by simp;omega) _).trans (belowK_b (w:=w) (Nat.le_refl _) _ D _ _ (by(try simp at hD);omega) hK3 rfl rfl)⟩
  ·simp[results,Tryz.f165,go_sem,c0,c1,c2]
  rw[show p0_ zs L c=none from w0_ _ fun j hj=>hp (bkH zs j) (m9_ _ (Nat.zero_le _) hj)];rfl
 case stop=>
  rintro D c pre W hD ⟨m,hk,rfl⟩ ⟨⟨⟨rfl,ini,last,e1,e2,e3,bR1⟩,bT1⟩,hB1⟩ hK
  gi_wp2
  refine⟨by simp,.inl ⟨_,_,rfl,run_takeDeferred hK,?_⟩⟩
  have bR3:=bR1.kept (grownBy_putObj' _ D (.deferred none)) (by simp;omega)
  have bT3:=bT1.kept (grownBy_putObj' _ D (.deferred none)) (by simp;omega)
  have c0:=bR3.cell 0
  have c1:=bR3.cell 1
  have c2:=bT3.cell 0
  simp at c0 c1 c2
  have hml:m<zs.length:=by
   rcases Nat.lt_or_ge m zs.length with h|h
   ·exact h
   obtain rfl:m=zs.length:=by omega
   rw[mv_]at e1;simp at e1
  rw[k4_ _ hml]at e1
  obtain⟨rfl,e5⟩:=List.append_inj' e1 rfl
  obtain rfl:bkH zs m=last:=by simpa using e5
  refine⟨.tuple #[.agg #[.int .i64 (bkH zs m).2.2.2.1,.int .i64 (bkH zs m).2.2.2.2],.bool true],?_,?_,hB1.trans (belowK_b (w:=w) (Nat.le_refl _) W D _ _ (by(try simp at hD);omega) hK rfl rfl)⟩
  ·simp[results,Tryz.f165,go_sem,c0,c1,c2]
  rw[show p0_ zs L c=some (zs.getD m G0)from z6_ e3 _ hml fun j h1 h2=>e2 (bkH zs j) (m9_ _ h1 h2)];rfl
theorem a0q_ {φ:Phi} {S:Nat→Prop} {w:World}:∀ {l:List Sg} {xs:List Value},VRr φ S w 4 (sgR l) xs→xs=l.flatMap fun x=>[.int .i64 x.1,.int .i64 x.2.1,.int .i64 x.2.2.1,.int .i64 x.2.2.2]
 |[],xs,h=>by simpa[sgR,VRr]using h
 |s::l,xs,h=>by
  simp only[sgR,List.map_cons,VRr]at h
  obtain⟨ys,zs,rfl,_,h2,_,h3⟩:=h
  simp only[sgC,VRs,VR]at h2
  obtain⟨x1,r1,rfl,rfl,x2,r2,rfl,rfl,x3,r3,rfl,rfl,x4,r4,rfl,rfl,rfl⟩:=h2
  rw[a0q_ h3];rfl
theorem a56_ {l:List Sg} {j:Nat} (h:j<l.length):let f:Sg→List Value:=fun x=>[.int .i64 x.1,.int .i64 x.2.1,.int .i64 x.2.2.1,.int .i64 x.2.2.2]
  (l.flatMap f)[j * 4]? = some (.int .i64 (l.getD j G0).1)∧(l.flatMap f)[j * 4+1]? = some (.int .i64 (l.getD j G0).2.1)∧(l.flatMap f)[j * 4+2]? = some (.int .i64 (l.getD j G0).2.2.1)∧(l.flatMap f)[j * 4+3]? = some (.int .i64 (l.getD j G0).2.2.2):=by
 intro f
 induction l generalizing j with
 |nil=>simp at h
 |cons x l ih=>
  cases j with
  |zero=>simp[f]
  |succ j=>
   have:=ih (j:=j) (by simpa using h)
   have e:∀k,(List.flatMap f (x::l))[(j+1) * 4+k]? = (List.flatMap f l)[j * 4+k]?:=fun k=>by
    rw[List.flatMap_cons,List.getElem?_append_right (by simp[f];omega)]
    congr 1
    simp[f];omega
   have e0:=e 0
   simp only[Nat.add_zero]at e0
   rw[e0,e 1,e 2,e 3]
   simpa using this
def lkL:Option Sg→Int
 |some x=>x.2.2.1
 |none=>0
def lkC:Option Sg→Int
 |some x=>x.2.2.2
 |none=>0
abbrev atk_ (o:Option Sg):List V:=[.ag [.i .i64 (lkL o),.i .i64 (lkC o)],.b o.isSome]
theorem azy_ {S:Nat→Prop} {w w':World} (o:Option Sg) (h:Below w.heap.size w w'):∃ys,a0j_ o=ga_ ys∧Below w.heap.size w w'∧VRs (fun _=>none) (fun g=>S g∨w.heap.size≤g) w' (atk_ o) ys:=by
 cases o<;>exact⟨[_,_],rfl,h,.cons (by simp only[VR];exact⟨_,rfl,.cons (by simp only[VR]<;>rfl) (.cons (by simp only[VR]<;>rfl) .nil)⟩) (.cons (by simp only[VR]<;>rfl) .nil)⟩
theorem a2f_ (l:List Sg) (L c:Int) (hl:l.length≤1000000000000):ACall En 165 [.sl false (sgR l),.ag [.i .i64 L,.i .i64 c]] [] (atk_ (p0_ l L c)) []:=by
 refine gb_ (fn:=Tryz.f165) Tryz.func165 rfl rfl fun S w xs hx _ _=>?_
 simp only[VRs,VR]at hx
 obtain⟨x,r,e1,⟨A,cp,z,ys,rfl,h2,h3,h4,h5,h6⟩,y,q,rfl,⟨pv,rfl,u1,p1,hpv,rfl,u2,p2,rfl,rfl,rfl⟩,rfl⟩:=hx
 obtain rfl:pv=#[.int .i64 L,.int .i64 c]:=by apply Array.ext';simpa using hpv
 obtain rfl:xs=#[.slice A (sgR l).length cp,.agg #[.int .i64 L,.int .i64 c]]:=by apply Array.ext';simpa using e1
 rw[df_]at *
 have hI:SegsAt w.heap.size w (.slice A l.length cp) l:=by
  refine⟨A,cp,rfl,fun hne=>?_⟩
  have hz:z=4:=by
   cases l with
   |nil=>exact absurd rfl hne
   |cons x l=>exact(h6.rowlen _ (List.mem_cons_self)).symm
  subst hz
  have hv:=a0q_ h6
  obtain⟨g,o,rfl,_,hg,hcell⟩:=h5 (by rw[hv];cases l with|nil=>exact absurd rfl hne|cons x l=>simp)
  refine⟨g,o,rfl,hg,fun j hj=>?_⟩
  obtain⟨f0,f1,f2,f3⟩:=a56_ hj
  rw[←hv]at f0 f1 f2 f3
  exact⟨hcell _ _ f0,by have:=hcell _ _ f1;rwa [←Nat.add_assoc]at this,by have:=hcell _ _ f2;rwa [←Nat.add_assoc]at this,by have:=hcell _ _ f3;rwa [←Nat.add_assoc]at this⟩
 refine(callsIn_wide (n:=3)).1 ((azc_ _ 3 trivial trivial trivial rfl (by omega) A cp l L c (by omega) w hI).mono ?_)
 rintro e w' ⟨rfl,h⟩
 obtain⟨ys,q1,q2,q3⟩:=azy_ (S:=S) (p0_ l L c) h
 exact⟨ys,by rw[q1],q2,q3⟩
end
section
attribute [local go_sem] cf_ in
theorem am0_ (l:List Sg) (L c:Int) (hl:l.length≤1000000000000):ACall En 96 [.sl false (sgR l),.ag [.i .i64 L,.i .i64 c]] [] [.ag [.i .i64 (lkL (g3_ l L c)),.i .i64 (lkC (g3_ l L c))],.b (g3_ l L c).isSome] []:=by
 refine aa_ [] Tryz.func96 Tryz.ntmps96 fun C=>?_
 refine .seq (.rg [] ?_)
 refine .seq (.seq (.rg [ab_ (xb_ l hl)] ?_))
 refine .cB (fun h8=>?_) fun h8=>?_
 ·refine .seq (.rg [] ?_)
  refine .ret ⟨.inr rfl,Out.pP Tryz.results96 ?_⟩;simp at h8;simp[g3_,h8,lkL,lkC]
 refine .skip (.seq (.rg [ab_ (a2f_ l L c hl)] ?_))
 refine .ret ⟨.inr rfl,Out.pP Tryz.results96 ?_⟩;simp at h8;simp[g3_,h8]
def toR (l:List Sg):List (List V):=l.map fun x=>[.i .i64 x.1,.i .i64 x.2.1]
theorem ik_ (l:List Sg):(toR l).length=l.length:=by simp[toR]
theorem ka_:∀l:List Sg,bg_ (toR l)=true
 |[]=>rfl
 |x::l=>by
  show bg_ ([.i .i64 x.1,.i .i64 x.2.1]::toR l)=true
  simp only[bg_,bu_,V.pure,ka_ l,Bool.and_self]
theorem j1_ {l:List Sg} {L c:Int} {k:Nat} (h:k<l.length):(l.take (k+1)).filter (es_ L c)=(l.take k).filter (es_ L c)++(if es_ L c (l.getD k G0)then [l.getD k G0]else []):=by
 rw[List.take_add_one,List.getElem?_eq_getElem h,List.filter_append,List.getD_eq_getElem?_getD,List.getElem?_eq_getElem h]
 simp only[Option.toList_some,List.filter_cons,List.filter_nil,Option.getD_some]
attribute [local go_sem] ka_ ik_ in
theorem ao1_ (l:List Sg) (hl:l.length<1099511627776):ACall En 166 [.ow 0 2 0 l.length] [⟨80,2,toR l⟩] [.ow 0 2 0 l.length] [⟨80,2,toR l⟩]:=by
 refine aa_ [0] Tryz.func166 Tryz.ntmps166 fun C=>?_
 refine .seq (.rg [] ?_)
 refine .seq (.rg [] ?_)
 refine .ret ⟨.inr rfl,Out.mP Tryz.results166 ?_ ?_⟩
 ·simp
 trivial
theorem ar9_ (x:Sg) (L c:Int):(some ([x.2.2.1,x.2.2.2]:List Int)==some [L,c])=es_ L c x:=by
 rw[Bool.eq_iff_iff];simp[es_]
attribute [local go_sem] aw_ a5_ df_ cf_ ka_ ik_ cmpO cmpB pl_ intA in
theorem anu_ (l:List Sg) (L c:Int) (hl:l.length≤1000000000):ACall En 98 [.sl false (sgR l),.ag [.i .i64 L,.i .i64 c]] [] [.sl false (toR (di_ l L c))] []:=by
 have hF:∀k,((l.take k).filter (es_ L c)).length≤k:=fun k=>Nat.le_trans (List.length_filter_le _ _) (by rw[List.length_take];omega)
 have hb:=ar9_
 refine aa_ [] Tryz.func98 Tryz.ntmps98 fun C=>?_
 refine .seq (.rg [] ?_ (h:=by simp only[go_sem,seval,hb];rfl))
 refine .seq (.seq (.rg [ab_ (xb_ l (by omega))] ?_ (h:=by simp only[go_sem,seval,hb];rfl)))
 refine .cB (fun h10=>?_) (fun h10=>?_) (hc:=by simp only[go_sem,seval,hb];rfl) (hp:=by simp only[go_sem,seval,hb])
 ·refine .seq (.rg [] ?_ (h:=by simp only[go_sem,seval,hb];rfl))
  refine .ret ⟨.inr rfl,?_⟩
  exact Out.plL (by simp only[Tryz.results98];rfl) (by simp only[ba_,go_sem,seval,hb]<;>(simp at h10;simp[di_,h10,toR,les,leV,ler])) (h1:=by simp only[a1_,bn_,go_sem,seval,hb]<;>(split<;>rfl)) (h3:=by simp only[go_sem,seval,hb])
 refine .skip (.seq (.rg [] ?_ (h:=by simp only[go_sem,seval,hb];rfl)))
 refine .seq (.seq (.rg [] ?_ (h:=by simp only[go_sem,seval,hb];rfl)))
 refine .block (.loopK (fun k:Nat=>⟨[.no,.no,.no,.pt 13 2 0 0,.no,.ow 20 2 0 ((l.take k).filter (es_ L c)).length,.no,.no,.no,.no,.no,.sl false (sgR l),.i .i64 l.length,.i .i64 k,.no,.no,.no,.no,.no,.no,.no,.no,.no,.no,.no,.no,.no,.no,.no],ae_ [(13,⟨80,2,[[.i .i64 L,.i .i64 c]]⟩),(20,⟨80,2,toR ((l.take k).filter (es_ L c))⟩)],us [13,20]⟩) (fun k:Nat=>k≤l.length∧h2_ l=true) (fun k:Nat=>l.length - k) (0) ?_ ?_ (fun k hI=>?_))
 ·exact⟨by simp,by simpa using h10⟩
 ·refine Can.trans (Can.ownSlot 5 20 80 2 (by simp only[go_sem,seval,hb]<;>rfl) (by simp only[go_sem,seval,hb]) (by simp only[go_sem,seval,hb]<;>rfl)) ?_
  exact Can.wl (h:=by simp only[go_sem,seval,hb,av_,leV,as_,au_,V.inn,us,true_or,or_true]<;>(simp)) (hi:=by simp only[go_sem,seval,hb,av_,leV,as_,au_,V.inn,us,true_or,or_true]) (hL:=by simp only[go_sem,seval,hb,av_,leV,as_,au_,V.inn,us,true_or,or_true]<;>(simp[toR]))
 refine .seq (.rg [] ?_ (h:=by simp only[go_sem,seval,hb];rfl))
 refine .seq (.cB (fun h14=>?_) (fun h14=>?_) (hc:=by simp only[go_sem,seval,hb];rfl) (hp:=by simp only[go_sem,seval,hb]))
 ·refine .skip (.seqJ (fun u:Unit=>⟨[.no,.no,.no,.pt 13 2 0 0,.no,.ow 20 2 0 ((l.take (k+1)).filter (es_ L c)).length,.no,.no,.no,.no,.no,.sl false (sgR l),.i .i64 l.length,.i .i64 k,.no,.no,.no,.no,.no,.no,.no,.no,.no,.no,.no,.no,.no,.no,.no],ae_ [(13,⟨80,2,[[.i .i64 L,.i .i64 c]]⟩),(20,⟨80,2,toR ((l.take (k+1)).filter (es_ L c))⟩)],us [13,20]⟩) (fun u:Unit=>True) ?_ (fun u hJ=>?_))
  ·refine .block (.seq (.rgo [] ?_ ?_ (h:=by simp only[go_sem,seval,hb,h6_ (show k<l.length by simpa using h14)];rfl)))
   ·((simp only[decide_eq_true_eq]at h14;and_intros<;>omega))
   refine .seq (.rgS [20] [cmpO En .eql 80 2 az9_] ?_ (h:=by simp only[go_sem,seval,hb];rfl))
   refine .cB (fun h20=>?_) (fun h20=>?_) (hc:=by simp only[go_sem,seval,hb];rfl) (hp:=by simp only[go_sem,seval,hb])
   ·refine .rgo [] ?_ ?_ (h:=by simp only[go_sem,seval,hb];rfl)
    ·((have:=hF k;simp[ik_];omega))
    refine Exists.intro (()) ⟨?_,?_⟩
    ·trivial
    refine Can.trans (Can.swap 35 20 (by decide) (by decide) (by decide) (by decide) (by simp only[go_sem,seval,hb,V.cl]) (by simp only[go_sem,seval,hb,V.cl]) (by simp only[go_sem,seval,hb,dv_,sw,swM,rnB]<;>rfl) (by simp only[go_sem,seval,hb,dv_,sw,swM,rnB]<;>rfl) (by simp only[go_sem,seval,hb,dv_,sw,swM,rnB]<;>rfl)) ?_
    exact Can.wl (h:=by simp only[go_sem,seval,hb,av_,leV,as_,au_,V.inn,us,true_or,or_true]<;>((rw[j1_ (by simpa using h14),if_pos (by simpa using h20)];simp;done))) (hi:=by simp only[go_sem,seval,hb,av_,leV,as_,au_,V.inn,us,true_or,or_true]) (hL:=by simp only[go_sem,seval,hb,av_,leV,as_,au_,V.inn,us,true_or,or_true]<;>((rw[j1_ (by simpa using h14),if_pos (by simpa using h20)];simp[toR];done)))
   refine .skip ?_
   refine Exists.intro (()) ⟨?_,?_⟩
   ·trivial
   exact Can.wl (h:=by simp only[go_sem,seval,hb,av_,leV,as_,au_,V.inn,us,true_or,or_true]<;>((rw[j1_ (by simpa using h14),if_neg (by simpa using h20)];simp;done))) (hi:=by simp only[go_sem,seval,hb,av_,leV,as_,au_,V.inn,us,true_or,or_true]) (hL:=by simp only[go_sem,seval,hb,av_,leV,as_,au_,V.inn,us,true_or,or_true]<;>((rw[j1_ (by simpa using h14),if_neg (by simpa using h20)];simp[toR];done)))
  refine .rg [] ?_ (h:=by simp only[go_sem,seval,hb];rfl)
  refine⟨k+1,?_,?_,?_⟩
  ·simp at h14;exact⟨by omega,hI.2⟩
  ·simp at h14;omega
  exact Can.wl (h:=by simp only[go_sem,seval,hb,av_,leV,as_,au_,V.inn,us,true_or,or_true]<;>(rw[ac_ (by simp at h14;omega) (by simp at h14;omega)];simp)) (hi:=by simp only[go_sem,seval,hb,av_,leV,as_,au_,V.inn,us,true_or,or_true]) (hL:=by simp only[go_sem,seval,hb,av_,leV,as_,au_,V.inn,us,true_or,or_true])
 refine .exit (.seq (.rgo [at_ [20] [] (ao1_ (l.filter (es_ L c)) (by have:=hF l.length;rw[List.take_length]at this;omega))] ?_ ?_ (h:=by simp only[go_sem,seval,hb];rfl)))
 ·simp only[decide_eq_false_iff_not]at h14;(obtain rfl:k=l.length:=(by omega));simp
 refine .frz 20 (by simp only[go_sem,seval,hb];rfl) (by simp only[go_sem,seval,hb]) (by simp only[go_sem,seval,hb];rfl) (by simp only[go_sem,seval,hb];rfl) ?_
 refine .ret ⟨.inr rfl,?_⟩
 exact Out.plL (by simp only[Tryz.results98];rfl) (by simp only[ba_,go_sem,seval,hb]<;>(simp[di_,hI.2,les,leV,peel,ik_,List.take_of_length_le,ad_])) (h1:=by simp only[a1_,bn_,go_sem,seval,hb]<;>(split<;>rfl)) (h3:=by simp only[go_sem,seval,hb])
end
section
theorem ams_ (a b:Int):ACall En 180 [.ag [.i .i64 a,.i .i64 b]] [] [.b (decide (0≤a)&&decide (a≤15)&&(decide (0≤b)&&decide (b≤119)))] []:=by
 refine aa_ [] Tryz.func180 Tryz.ntmps180 fun C=>?_
 refine .seq (.rg [] ?_)
 refine .seq (.rg [] ?_)
 refine .ret ⟨.inr rfl,Out.pP Tryz.results180 ?_⟩;rw[show decide (a<16)=decide (a≤15)from decide_eq_decide.2 (by omega),show decide (b<120)=decide (b≤119)from decide_eq_decide.2 (by omega),Bool.and_assoc]
theorem ai5_ (a b c d:Int):ACall En 181 [.ag [.i .i64 a,.i .i64 b],.ag [.i .i64 c,.i .i64 d]] [] [.b (decide (a<c)||a==c&&decide (b<d))] []:=by
 refine aa_ [] Tryz.func181 Tryz.ntmps181 fun C=>?_
 refine .seq (.rg [] ?_)
 refine .seq (.rgo [] ?_ ?_)
 ·(exact⟨fun h=>⟨h,fun h2=>by rw[h,h2];rfl⟩,fun h=>by rw[h];rfl⟩)
 refine .ret ⟨.inr rfl,Out.pP Tryz.results181 ?_⟩;trivial
theorem a1o_ {A B K:Bool} {P Q:Prop} (hP:P) (hQ:(!(A||B)&&K)=true→Q):(((((P∧((!A)=true→(!A)=true∧P))∧(A=false→(!A)=true))∧((!(A||B)&&K)=true→(!(A||B)&&K)=true∧Q))∧((!(A||B)&&K)=true→(!(A||B)&&K)=true∧P))∧((!(A||B))=true→(!(A||B))=true∧(K=true→(!(A||B)&&K)=true)))∧((A||B)=false→(!(A||B))=true):=
 ⟨⟨⟨⟨⟨⟨hP,fun h=>⟨h,hP⟩⟩,fun h=>by rw[h];rfl⟩,fun h=>⟨h,hQ h⟩⟩,fun h=>⟨h,hP⟩⟩,fun h=>⟨h,fun h2=>by rw[h,h2];rfl⟩⟩,fun h=>by rw[h];rfl⟩
attribute [local go_sem] df_ cf_ in
theorem q4_ (l:List Sg) (hl:l.length≤1000000000000):ACall En 119 [.sl false (sgR l)] [] [.b (h2_ l)] []:=by
 refine aa_ [] Tryz.func119 Tryz.ntmps119 fun C=>?_
 refine .seq (.rg [] ?_)
 refine .seq (.seq (.rg [] ?_))
 refine .block (.loopK (fun k:Nat=>⟨[.sl false (sgR l),.no,.no,.i .i64 k,.no,.no,.no,.no,.no,.no,.no,.no,.no,.no,.no,.no,.no,.no,.no,.no,.no,.no,.no,.no,.no,.no,.no,.no,.no,.no,.no,.no,.no,.no,.no,.no,.no,.no,.no,.no,.no,.no,.no,.no,.no,.no,.no,.no],ae_ [],us []⟩) (fun k:Nat=>k≤l.length∧(List.range k).all (sj_ l)=true) (fun k:Nat=>l.length - k) (0) ?_ ?_ (fun k hI=>?_))
 ·exact⟨Nat.zero_le _,rfl⟩
 ·refine Can.wh ?_;trivial
 refine .seq (.seq (.rg [] ?_))
 refine .cB (fun h7=>?_) fun h7=>?_
 ·refine .skip (.seq (.block (.seq (.rgDo [ab_ (ams_ (l.getD k G0).1 (l.getD k G0).2.1),ab_ (ams_ (l.getD k G0).2.2.1 (l.getD k G0).2.2.2),ab_ (ai5_ (l.getD (k - 1) G0).1 (l.getD (k - 1) G0).2.1 (l.getD k G0).1 (l.getD k G0).2.1)] ?_ ?_ (h:=by simp only[go_sem,seval,h6_ (show k<l.length by simpa using h7),show(IntKind.i64.wrap ((k:Int) - 1)).toNat=k - 1 by(simp at h7;by_cases h0:k=0<;>(try subst h0)<;>(try rw[ac_ (by omega) (by omega)])<;>omega),h6_ (show k - 1<l.length by simp at h7;omega)];rfl)))))
  ·((refine a1o_ (by simp at h7;omega) fun h=>?_;rw[Bool.and_eq_true]at h;have h0:=of_decide_eq_true h.2;simp at h7;rw[ac_ (by omega) (by omega)];omega))
  refine .cB (fun h44=>?_) fun h44=>?_
  ·refine .seq (.rg [] ?_)
   refine .ret ⟨.inr rfl,Out.pP Tryz.results119 ?_⟩;rw[qj_]at h44;simp at h7;(have e:(List.range l.length).all (sj_ l)=false:=(by rw[List.all_eq_false];exact⟨k,by simpa using h7,by simpa using h44⟩));unfold h2_;rw[e];rfl
  refine .skip (.rg [] ?_)
  refine⟨k+1,?_,?_,?_⟩
  ·rw[qj_]at h44;simp at h7;exact⟨by omega,by rw[List.range_succ,List.all_append,hI.2];simpa using h44⟩
  ·simp at h7;omega
  refine Can.wh ?_;rw[ac_ (by simp at h7;omega) (by simp at h7;omega)];simp
 refine .exit (.seq (.rg [] ?_))
 refine .ret ⟨.inr rfl,Out.pP Tryz.results119 ?_⟩;simp only[decide_eq_false_iff_not]at h7;(obtain rfl:k=l.length:=(by omega));unfold h2_;rw[hI.2,Bool.true_and,show decide ((l.length:Int)≤1280)=decide (l.length≤1280)from decide_eq_decide.2 (by omega)]
attribute [local go_sem] al_ in
theorem awt_ (x:Sg) (c a b:Int) (h:(0≤x.2.1∧x.2.1≤119)∧(0≤x.2.2.1∧x.2.2.1≤15)∧(0≤x.2.2.2∧x.2.2.2≤119)∧(0≤c∧c≤119)∧(0≤a∧a≤119)∧0≤b∧b≤119):ACall En 120 [.ag [.i .i64 x.1,.i .i64 x.2.1,.i .i64 x.2.2.1,.i .i64 x.2.2.2],.i .i64 c,.ag [.i .i64 a,.i .i64 b]] [] [.s (lk_ [x.2.1 - c,x.2.2.1 - a,x.2.2.2 - b])] []:=by
 have hi:inR [x.2.1 - c,x.2.2.1 - a,x.2.2.2 - b]=[[.i .i64 (x.2.1 - c)],[.i .i64 (x.2.2.1 - a)],[.i .i64 (x.2.2.2 - b)]]:=rfl
 refine aa_ [] Tryz.func120 Tryz.ntmps120 fun C=>?_
 refine .seq (.rg [] ?_ (h:=by simp only[go_sem,seval,hi];rfl))
 refine .seq (.rgo [ab_ (aff_ [x.2.1 - c,x.2.2.1 - a,x.2.2.2 - b] (by simp))] ?_ ?_ (h:=by simp only[go_sem,seval,hi];rfl))
 ·rw[ac_ (by omega) (by omega),ac_ (by omega) (by omega),ac_ (by omega) (by omega)];exact⟨rfl,rfl,rfl⟩
 refine .ret ⟨.inr rfl,?_⟩
 exact Out.pl (by simp only[Tryz.results120];rfl) (by simp only[ba_,go_sem,seval,hi]<;>(rfl)) (h1:=by simp only[a1_,bn_,go_sem,seval,hi]<;>(split<;>rfl)) (h3:=by simp only[go_sem,seval,hi])
end
end Go.Proofs.YthjccajoadjicaaGreatDoor
