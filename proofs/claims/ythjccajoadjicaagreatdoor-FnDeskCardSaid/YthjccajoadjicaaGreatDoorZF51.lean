/- The law FnDesk: what it answers. Conditions: none. -/
import Derived.Test.YthjccajoadjicaaGreatDoorMr
set_option linter.unusedVariables false
set_option linter.unusedSimpArgs false
set_option maxRecDepth 100000
set_option maxHeartbeats 8000000
namespace Go.Proofs.YthjccajoadjicaaGreatDoor
theorem aan_ {s:Str} {k:Nat} (h:k<s.length):(s.take (k+1)).count 10=(s.take k).count 10+if s.getD k 0=10 then 1 else 0:=by
 rw[List.take_add_one,List.getElem?_eq_getElem h,List.count_append,List.getD_eq_getElem?_getD,List.getElem?_eq_getElem h]
 simp only[Option.toList_some,Option.getD_some,List.count_cons,List.count_nil,beq_iff_eq,Nat.zero_add]
theorem nl_t {c:UInt8} (h:((c.toNat:Int)==10)=true):c=10:=by
 rw[beq_iff_eq]at h
 exact UInt8.toNat_inj.1 (by have:(10:UInt8).toNat=10:=rfl;omega)
theorem nl_f {c:UInt8} (h:((c.toNat:Int)==10)=false):c≠10:=by
 rintro rfl;revert h;decide
/-- a place behind a newline, or the beginning -/
def CutP (s:Str) (k c:Nat):Prop:=c≤k∧(c=0∨0<c∧s.getD (c - 1) 0=10)
theorem CutP.mono {s:Str} {k c:Nat} (h:CutP s k c):CutP s (k+1) c:=⟨by have:=h.1;omega,h.2⟩
theorem azr_ {s:Str} {k:Nat} (h:s.getD k 0=10):CutP s (k+1) (k+1):=⟨Nat.le_refl _,.inr ⟨by omega,h⟩⟩
theorem auz_:ds_ []=[]:=by unfold ds_;rw[if_neg (by decide)];rfl
theorem ar1_ {s:Str} {c:Nat} (h:CutP s s.length c) (hl:s.length≤20000):ds_ (s.take c) <+: ds_ s:=by
 obtain⟨h1,h2⟩:=h
 rcases h2 with rfl|⟨h2,h3⟩
 ·rw[List.take_zero,auz_];exact List.nil_prefix
 have hk:c - 1<s.length:=by omega
 have e:s=s.take (c - 1)++10::s.drop c:=by
  have h4:s[c - 1]=10:=by rw[←h3,List.getD_eq_getElem?_getD,List.getElem?_eq_getElem hk];rfl
  conv=>lhs;rw[←List.take_append_drop (c - 1) s,List.drop_eq_getElem_cons hk,h4,show c - 1+1=c by omega]
 have e2:s.take c=s.take (c - 1)++[10]:=by
  have h4:s[c - 1]=10:=by rw[←h3,List.getD_eq_getElem?_getD,List.getElem?_eq_getElem hk];rfl
  conv=>lhs;rw[show c=c - 1+1 by omega,List.take_add_one,List.getElem?_eq_getElem hk,h4]
  rfl
 rw[e2]
 have:=asn_ (s:=s.take (c - 1)) (t:=s.drop c) (by rw[←e];exact hl)
 rw[←e]at this
 exact this
theorem a08_ {p d:Str} (h:p <+: d):(decide ((p.length:Int) > d.length)||!(d.take p.length==p))=false:=by
 have h1:=h.length_le
 have h2:=List.prefix_iff_eq_take.1 h
 rw[←h2,decide_eq_false (by omega)];simp
theorem ah6_ (s:Str) (k:Nat):(s.take k).count 10≤k:=Nat.le_trans List.count_le_length (by rw[List.length_take];omega)
attribute [local go_sem] hx_ k2_ in
theorem aoe_ (b c:Str):ACall En 4 [.sl false (byR b),.sl false (byR c)] [] [.b true] []:=by
 have D:=xi_ b
 have hs:=ar5_ (b.take 2000)
 generalize adc_ (b.take 2000)=s at *
 have hm:((c.length:Int).tmod 12)=((c.length % 12:Nat):Int):=by rw[Int.tmod_eq_emod_of_nonneg (by omega)];rfl
 refine aa_ [] Tryz.func4 Tryz.ntmps4 fun C=>?_
 refine .seq (.rg [] ?_ (h:=by simp only[go_sem,seval,hm];rfl))
 refine .seq (.seq (.rg [] ?_ (h:=by simp only[go_sem,seval,hm];rfl)))
 refine .cB (fun h21=>?_) (fun h21=>?_) (hc:=by simp only[go_sem,seval,hm];rfl) (hp:=by simp only[go_sem,seval,hm])
 ·refine .seq (.rg [] ?_ (h:=by simp only[go_sem,seval,hm];rfl))
  refine .ret ⟨.inr rfl,?_⟩
  exact Out.pl (by simp only[Tryz.results4];rfl) (by simp only[ba_,go_sem,seval,hm]<;>(rfl)) (h1:=by simp only[a1_,bn_,go_sem,seval,hm]<;>(split<;>rfl)) (h3:=by simp only[go_sem,seval,hm])
 refine .skip (.seq (.rg [ab_ D] ?_ (h:=by simp only[go_sem,seval,hm];rfl)))
 refine .seq (.rg [ab_ (i7_ s (by omega))] ?_ (h:=by simp only[go_sem,seval,hm];rfl))
 refine .seq (.seq (.rg [ab_ (wr_ s (by omega))] ?_ (h:=by simp only[go_sem,seval,hm];rfl)))
 refine .cB (fun h29=>?_) (fun h29=>?_) (hc:=by simp only[go_sem,seval,hm];rfl) (hp:=by simp only[go_sem,seval,hm])
 ·simp at h29
 refine .skip (.seq (.rg [] ?_ (h:=by simp only[go_sem,seval,hm];rfl)))
 refine .seq (.rg [] ?_ (h:=by simp only[go_sem,seval,hm];rfl))
 refine .seq (.rg [] ?_ (h:=by simp only[go_sem,seval,hm];rfl))
 refine .seq (.seq (.rg [] ?_ (h:=by simp only[go_sem,seval,hm];rfl)))
 refine .block (.loopK (fun q:Nat × Nat × Int=>⟨[.no,.no,.no,.no,.no,.s s,.s (ds_ s),.i .i64 q.2.1,.i .i64 q.2.2,.i .i64 (((s.take q.1).count 10:Nat):Int),.i .i64 q.1,.no,.no,.no,.no,.no,.no,.no,.no,.no,.no,.no,.no,.no,.no,.no,.no,.no,.no,.no,.no,.no,.no,.no,.no,.no,.no,.no,.no,.no,.no,.no,.no,.no,.no,.no,.no,.no,.no,.no,.no,.no,.no,.no,.no,.no,.no,.no,.no,.no,.no,.no,.no,.no,.no,.no,.no,.no,.no,.no,.no,.no,.no,.no,.no,.no,.no,.no,.no,.no,.no,.no,.no,.no,.no,.no,.no,.no,.no,.no,.no,.no,.no,.no,.no,.no,.no,.no,.no],ae_ [],us []⟩) (fun q:Nat × Nat × Int=>CutP s q.1 q.2.1∧q.1≤s.length∧0≤q.2.2∧q.2.2≤12) (fun q:Nat × Nat × Int=>s.length - q.1) ((0,0,1+((c.length % 12:Nat):Int))) ?_ ?_ (fun q hI=>?_))
 ·exact⟨⟨Nat.le_refl _,.inl rfl⟩,Nat.zero_le _,by dsimp only;omega,by dsimp only;omega⟩
 ·exact Can.wl (h:=by simp only[go_sem,seval,hm,av_,leV,as_,au_,V.inn,us,true_or,or_true]<;>(rw[ac_ (by omega) (by omega)];exact⟨rfl,rfl⟩)) (hi:=by simp only[go_sem,seval,hm,av_,leV,as_,au_,V.inn,us,true_or,or_true]) (hL:=by simp only[go_sem,seval,hm,av_,leV,as_,au_,V.inn,us,true_or,or_true])
 refine .seq (.seq (.rg [] ?_ (h:=by simp only[go_sem,seval,hm];rfl)))
 refine .cB (fun h37=>?_) (fun h37=>?_) (hc:=by simp only[go_sem,seval,hm];rfl) (hp:=by simp only[go_sem,seval,hm])
 ·refine .skip (.seqJ (fun u:Nat × Int=>⟨[.no,.no,.no,.no,.no,.s s,.s (ds_ s),.i .i64 u.1,.i .i64 u.2,.i .i64 (((s.take (q.1+1)).count 10:Nat):Int),.i .i64 q.1,.no,.no,.no,.no,.no,.no,.no,.no,.no,.no,.no,.no,.no,.no,.no,.no,.no,.no,.no,.no,.no,.no,.no,.no,.no,.no,.no,.no,.no,.no,.no,.no,.no,.no,.no,.no,.no,.no,.no,.no,.no,.no,.no,.no,.no,.no,.no,.no,.no,.no,.no,.no,.no,.no,.no,.no,.no,.no,.no,.no,.no,.no,.no,.no,.no,.no,.no,.no,.no,.no,.no,.no,.no,.no,.no,.no,.no,.no,.no,.no,.no,.no,.no,.no,.no,.no,.no,.no],ae_ [],us []⟩) (fun u:Nat × Int=>CutP s (q.1+1) u.1∧0≤u.2∧u.2≤12) ?_ (fun u hJ=>?_))
  ·refine .block (.seq (.rgo [] ?_ ?_ (h:=by simp only[go_sem,seval,hm];rfl)))
   ·simp only[decide_eq_true_eq]at h37;and_intros<;>first|omega|rfl|(simp;done)|(simp;omega)
   refine .cB (fun h43=>?_) (fun h43=>?_) (hc:=by simp only[go_sem,seval,hm];rfl) (hp:=by simp only[go_sem,seval,hm])
   ·refine .seq (.rg [] ?_ (h:=by simp only[go_sem,seval,hm];rfl))
    refine .seq (.rg [] ?_ (h:=by simp only[go_sem,seval,hm];rfl))
    refine .cB (fun h47=>?_) (fun h47=>?_) (hc:=by simp only[go_sem,seval,hm];rfl) (hp:=by simp only[go_sem,seval,hm])
    ·refine .seq (.rg [] ?_ (h:=by simp only[go_sem,seval,hm];rfl))
     refine .rg [] ?_ (h:=by simp only[go_sem,seval,hm];rfl)
     refine Exists.intro ((q.1+1,q.2.2 - 1)) ⟨?_,?_⟩
     ·exact⟨azr_ (nl_t h43),by simp at h47;dsimp only;omega,by have:=hI.2.2.2;dsimp only;omega⟩
     exact Can.wl (h:=by simp only[go_sem,seval,hm,av_,leV,as_,au_,V.inn,us,true_or,or_true]<;>(have hk:q.1<s.length:=(by simp only[decide_eq_true_eq]at h37;omega);have hn:=ah6_ s q.1;have hc:=aan_ hk;first|(rw[if_pos (nl_t h43)]at hc;rw[hc];and_intros<;>(rw[ac_ (by omega) (by omega)];(try omega)))|(rw[if_pos (nl_t h43)]at hc;rw[hc];rw[ac_ (by omega) (by omega)];rfl)|(rw[if_neg (nl_f h43)]at hc;rw[hc];rfl))) (hi:=by simp only[go_sem,seval,hm,av_,leV,as_,au_,V.inn,us,true_or,or_true]) (hL:=by simp only[go_sem,seval,hm,av_,leV,as_,au_,V.inn,us,true_or,or_true])
    refine .skip ?_
    refine⟨q.2,?_,?_⟩
    ·exact⟨hI.1.mono,hI.2.2⟩
    exact Can.wl (h:=by simp only[go_sem,seval,hm,av_,leV,as_,au_,V.inn,us,true_or,or_true]<;>(have hk:q.1<s.length:=(by simp only[decide_eq_true_eq]at h37;omega);have hn:=ah6_ s q.1;have hc:=aan_ hk;first|(rw[if_pos (nl_t h43)]at hc;rw[hc];and_intros<;>(rw[ac_ (by omega) (by omega)];(try omega)))|(rw[if_pos (nl_t h43)]at hc;rw[hc];rw[ac_ (by omega) (by omega)];rfl)|(rw[if_neg (nl_f h43)]at hc;rw[hc];rfl))) (hi:=by simp only[go_sem,seval,hm,av_,leV,as_,au_,V.inn,us,true_or,or_true]) (hL:=by simp only[go_sem,seval,hm,av_,leV,as_,au_,V.inn,us,true_or,or_true])
   refine .skip ?_
   refine⟨q.2,?_,?_⟩
   ·exact⟨hI.1.mono,hI.2.2⟩
   exact Can.wl (h:=by simp only[go_sem,seval,hm,av_,leV,as_,au_,V.inn,us,true_or,or_true]<;>(have hk:q.1<s.length:=(by simp only[decide_eq_true_eq]at h37;omega);have hn:=ah6_ s q.1;have hc:=aan_ hk;first|(rw[if_pos (nl_t h43)]at hc;rw[hc];and_intros<;>(rw[ac_ (by omega) (by omega)];(try omega)))|(rw[if_pos (nl_t h43)]at hc;rw[hc];rw[ac_ (by omega) (by omega)];rfl)|(rw[if_neg (nl_f h43)]at hc;rw[hc];rfl))) (hi:=by simp only[go_sem,seval,hm,av_,leV,as_,au_,V.inn,us,true_or,or_true]) (hL:=by simp only[go_sem,seval,hm,av_,leV,as_,au_,V.inn,us,true_or,or_true])
  refine .rg [] ?_ (h:=by simp only[go_sem,seval,hm];rfl)
  refine Exists.intro ((q.1+1,u.1,u.2)) ⟨?_,?_,?_⟩
  ·exact⟨hJ.1,by simp at h37;dsimp only;omega,hJ.2⟩
  ·simp at h37;dsimp only;omega
  exact Can.wl (h:=by simp only[go_sem,seval,hm,av_,leV,as_,au_,V.inn,us,true_or,or_true]<;>(simp at h37;rw[ac_ (by omega) (by omega)];rfl)) (hi:=by simp only[go_sem,seval,hm,av_,leV,as_,au_,V.inn,us,true_or,or_true]) (hL:=by simp only[go_sem,seval,hm,av_,leV,as_,au_,V.inn,us,true_or,or_true])
 refine .exit (.seq (.rgo [ab_ (i7_ (s.take q.2.1) (by rw[List.length_take];omega))] ?_ ?_ (h:=by simp only[go_sem,seval,hm];rfl)))
 ·have:=hI.1.1;have:=hI.2.1;and_intros<;>first|omega|rfl|(simp;done)|(simp;omega)
 refine .seq (.seq (.rgo [] ?_ ?_ (h:=by simp only[go_sem,seval,hm];rfl)))
 ·(try simp);(try omega)
 refine .cB (fun h68=>?_) (fun h68=>?_) (hc:=by simp only[go_sem,seval,hm];rfl) (hp:=by simp only[go_sem,seval,hm])
 ·refine .seq (.rg [] ?_ (h:=by simp only[go_sem,seval,hm];rfl))
  refine .ret ⟨.inr rfl,?_⟩
  exact Out.pl (by simp only[Tryz.results4];rfl) (by simp only[ba_,go_sem,seval,hm]<;>(have e:q.1=s.length:=(by simp only[decide_eq_false_iff_not]at h37;have:=hI.2.1;omega);have hC:=hI.1;rw[e]at hC;(rcases Nat.lt_or_ge 20000 s.length with q1|q1);(rw[decide_eq_true (by omega)]);(have z:=a08_ (ar1_ hC q1);rw[z]at h68;cases h68))) (h1:=by simp only[a1_,bn_,go_sem,seval,hm]<;>(split<;>rfl)) (h3:=by simp only[go_sem,seval,hm])
 refine .skip (.seq (.seq (.rg [] ?_ (h:=by simp only[go_sem,seval,hm];rfl))))
 refine .cB (fun h83=>?_) (fun h83=>?_) (hc:=by simp only[go_sem,seval,hm];rfl) (hp:=by simp only[go_sem,seval,hm])
 ·refine .seq (.rg [] ?_ (h:=by simp only[go_sem,seval,hm];rfl))
  refine .ret ⟨.inr rfl,?_⟩
  exact Out.pl (by simp only[Tryz.results4];rfl) (by simp only[ba_,go_sem,seval,hm]<;>(rfl)) (h1:=by simp only[a1_,bn_,go_sem,seval,hm]<;>(split<;>rfl)) (h3:=by simp only[go_sem,seval,hm])
 refine .skip (.seq (.rgo [ab_ (i7_ (s++[10,114,117,110]) (by simp only[List.length_append,List.length_cons,List.length_nil];omega))] ?_ ?_ (h:=by simp only[go_sem,seval,hm];rfl)))
 ·omega
 refine .seq (.rgo [ab_ (i7_ (s++[10,112,114,105,110,116]) (by simp only[List.length_append,List.length_cons,List.length_nil];omega))] ?_ ?_ (h:=by simp only[go_sem,seval,hm];rfl))
 ·omega
 refine .seq (.rgo [] ?_ ?_ (h:=by simp only[go_sem,seval,hm];rfl))
 ·simp only[Bool.or_eq_false_iff,decide_eq_false_iff_not]at h83;simp;omega
 refine .ret ⟨.inr rfl,?_⟩
 exact Out.pl (by simp only[Tryz.results4];rfl) (by simp only[ba_,go_sem,seval,hm]<;>(have e:q.1=s.length:=(by simp only[decide_eq_false_iff_not]at h37;have:=hI.2.1;omega);rw[e,List.take_of_length_le (Nat.le_refl _)]at h83;simp only[Bool.or_eq_false_iff,decide_eq_false_iff_not]at h83;have hn:=af5_ 10 s;have R:ds_ (s++[10,114,117,110])=ds_ s++[98,97,100,10]∨ds_ (s++[10,114,117,110])=ds_ (s++[10,112,114,105,110,116]):=ats_ (s:=s) (by omega) (by omega) (by omega);rcases R with R|R<;>simp[R])) (h1:=by simp only[a1_,bn_,go_sem,seval,hm]<;>(split<;>rfl)) (h3:=by simp only[go_sem,seval,hm])
end Go.Proofs.YthjccajoadjicaaGreatDoor
