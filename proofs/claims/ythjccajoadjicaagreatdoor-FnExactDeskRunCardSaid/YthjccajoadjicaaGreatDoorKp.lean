/- Books: what the program's tell. Conditions: none. -/
import Derived.Test.YthjccajoadjicaaGreatDoorKo
import Derived.Test.YthjccajoadjicaaGreatDoorKk
import Derived.Test.YthjccajoadjicaaGreatDoorKn
import Derived.Test.YthjccajoadjicaaGreatDoorKm
import Derived.Test.YthjccajoadjicaaGreatDoorKl
import Derived.Test.YthjccajoadjicaaGreatDoorKj
set_option linter.unusedVariables false
set_option linter.unusedSimpArgs false
namespace Go.Proofs.YthjccajoadjicaaGreatDoor
section
set_option maxRecDepth 100000
set_option maxHeartbeats 4000000
theorem w0_ {l:List Pg} {f:Pg→Str} (h:bq_ l=true) (hf:∀p,okP p=true→(f p).length≤120):(ce_ (l.map f)).length≤3000∧(l.map f).length≤16:=by
 have h1:=(cc_ h).2.1
 have:=aj6_ (l:=l.map f) (k:=120) fun s hs=>by
  obtain⟨p,hp,rfl⟩:=List.mem_map.1 hs
  exact hf p (ix_ h p hp)
 rw[List.length_map]at this
 have:=Nat.mul_le_mul_right 121 h1
 exact⟨by omega,by rw[List.length_map];exact h1⟩
attribute [local go_sem] bl_ a6_ cn_ aq_ ao_ fr_ j1_ in
theorem aey_ (F:Nat) (f:Pg→Str) (hF:∀p:Pg,ACall En F [.ag (pgC p)] [] [.s (f p)] []) (hf:∀p,okP p=true→(f p).length≤120) (l:List Pg) (hs:∀p∈l,pgB p) (hl:l.length≤2000000):ACall En 149 [.sl false (pgR l),.fn (.func F) [] []] [] [.s (if bq_ l then ce_ (l.map f)else [])] []:=by
 have hp:∀k,bh_ (en_ (an_ (l.map f)) [.s []] k)=true:=fun k=>io_ (aq_ _) rfl
 have hll:(an_ (l.map f)).length=l.length:=by simp[an_]
 have hf1:∀k,k<l.length→(l.map f).getD k []=f (l.getD k Pg0):=fun k h=>by simp[T8_,T6_ h]
 refine aa_ [] Tryz.func149 Tryz.ntmps149 fun C=>?_
 refine .seq (.rgo [] ?_ ?_ (h:=by simp only[go_sem,seval,hp,hll];rfl))
 ·(first|trivial|(simp;done)|(simp only[T3_]at h17;and_intros<;>omega)|(and_intros<;>omega))
 refine .seq (.seq (.rgo [ab_ (m5_ l hs hl)] ?_ ?_ (h:=by simp only[go_sem,seval,hp,hll];rfl)))
 ·(first|trivial|(simp;done)|(simp only[T3_]at h17;and_intros<;>omega)|(and_intros<;>omega))
 refine .cB (fun h10=>?_) (fun h10=>?_) (hc:=by simp only[go_sem,seval,hp,hll];rfl) (hp:=by simp only[go_sem,seval,hp,hll])
 ·refine .seq (.rgo [] ?_ ?_ (h:=by simp only[go_sem,seval,hp,hll];rfl))
  ·(first|trivial|(simp;done)|(simp only[T3_]at h17;and_intros<;>omega)|(and_intros<;>omega))
  refine .ret ⟨.inr rfl,?_⟩
  exact Out.pl (by simp only[Tryz.results149];rfl) (by simp only[ag_,go_sem,seval,hp,hll]<;>(simp at h10;simp[h10])) (h1:=by simp only[a8_,b4_,go_sem,seval,hp,hll]<;>(split<;>rfl)) (h3:=by simp only[go_sem,seval,hp,hll])
 ·refine .skip (.seq (.rgo [] ?_ ?_ (h:=by simp only[go_sem,seval,hp,hll];rfl)))
  ·(first|trivial|(simp;done)|(simp only[T3_]at h17;and_intros<;>omega)|(and_intros<;>omega))
  refine .seq (.seq (.rgo [] ?_ ?_ (h:=by simp only[go_sem,seval,hp,hll];rfl)))
  ·(first|trivial|(simp;done)|(simp only[T3_]at h17;and_intros<;>omega)|(and_intros<;>omega))
  refine .block (.loopK (fun k:Nat=>⟨[.no,.fn (.func F) [] [],.no,.no,.no,.ow 23 1 0 l.length,.no,.no,.no,.no,.no,.no,.no,.no,.sl false (pgR l),.i .i64 l.length,.i .i64 k,.no,.no,.no,.no,.no,.no,.no,.no,.no,.no,.no,.no,.no],ak_ [(23,⟨9,1,en_ (an_ (l.map f)) [.s []] k⟩)],us [23]⟩) (fun k:Nat=>k≤l.length∧bq_ l=true) (fun k:Nat=>l.length - k) (0) ?_ ?_ (fun k hI=>?_))
  ·exact⟨by simp,by simpa using h10⟩
  ·exact Can.wl (h:=by simp only[go_sem,seval,hp,hll,ae_,leV,ac_,ad_,V.inn,us,T9_,Ta_]<;>(simp)) (hi:=by simp only[go_sem,seval,hp,hll,ae_,leV,ac_,ad_,V.inn,us,T9_,Ta_]) (hL:=by simp only[go_sem,seval,hp,hll,ae_,leV,ac_,ad_,V.inn,us,T9_,Ta_]<;>(simp[ip_,hll]))
  refine .seq (.rgo [] ?_ ?_ (h:=by simp only[go_sem,seval,hp,hll];rfl))
  ·(first|trivial|(simp;done)|(simp only[T3_]at h17;and_intros<;>omega)|(and_intros<;>omega))
  refine .seq (.cB (fun h17=>?_) (fun h17=>?_) (hc:=by simp only[go_sem,seval,hp,hll];rfl) (hp:=by simp only[go_sem,seval,hp,hll]))
  ·refine .skip (.seq (.block (.seq (.rgo [] ?_ ?_ (h:=by simp only[go_sem,seval,hp,hll,c9_ (show k<l.length by simpa using h17)];rfl)))))
   ·(first|trivial|(simp;done)|(simp only[T3_]at h17;and_intros<;>omega)|(and_intros<;>omega))
   refine .rgo [a4_ (k<l.length) (fun h=>hF (l.getD k Pg0))] ?_ ?_ (h:=by simp only[go_sem,seval,hp,hll];rfl)
   ·(first|trivial|(simp;done)|(simp only[T3_]at h17;and_intros<;>omega)|(and_intros<;>omega))
   refine .rgo [] ?_ ?_ (h:=by simp only[go_sem,seval,hp,hll];rfl)
   ·(first|trivial|(simp;done)|(simp only[T3_]at h17;and_intros<;>omega)|(and_intros<;>omega))
   refine Exists.intro (k+1) ⟨?_,?_,?_⟩
   ·simp at h17;exact⟨by omega,hI.2⟩
   ·simp at h17;omega
   exact Can.wl (h:=by simp only[go_sem,seval,hp,hll,ae_,leV,ac_,ad_,V.inn,us,T9_,Ta_]<;>(rw[aj_ (by simp at h17;omega) (by simp at h17;omega)];simp)) (hi:=by simp only[go_sem,seval,hp,hll,ae_,leV,ac_,ad_,V.inn,us,T9_,Ta_]) (hL:=by simp only[go_sem,seval,hp,hll,ae_,leV,ac_,ad_,V.inn,us,T9_,Ta_]<;>((simp only[T3_]at h17);rw[←i3_ (by rw[hll];omega),aw_ (by rw[List.length_map];omega),hf1 _ (by omega)]))
  ·refine .exit (.seq (.rgo [agf_ (bq_ l=true) (fun h=>acr_ (l.map f) (by have:=(w0_ h hf).1;omega) (by have:=(w0_ h hf).2;omega))] ?_ ?_ (h:=by simp only[go_sem,seval,hp,hll];rfl)))
   ·simp only[T4_]at h17;refine⟨?_,hI.2⟩;rw[kb_ (by rw[hll];omega),T1_ (by rw[hll];exact Nat.le_refl _)];exact af_ _
   refine .ret ⟨.inr rfl,?_⟩
   exact Out.pl (by simp only[Tryz.results149];rfl) (by simp only[ag_,go_sem,seval,hp,hll]<;>(simp[hI.2])) (h1:=by simp only[a8_,b4_,go_sem,seval,hp,hll]<;>(split<;>rfl)) (h3:=by simp only[go_sem,seval,hp,hll])
attribute [local go_sem] cn_ ao_ in
theorem adn_ (p:Pg):ACall En 150 [.ag (pgC p)] [] [.s p.line] []:=by
 refine aa_ [] Tryz.func150 Tryz.ntmps150 fun C=>?_
 refine .seq (.rg [] ?_)
 refine .seq (.rg [] ?_)
 refine .ret ⟨.inr rfl,?_⟩
 exact Out.pl (by simp only[Tryz.results150];rfl) (by simp only[ag_,go_sem,seval]<;>(simp_all))
attribute [local go_sem] cn_ ao_ in
theorem ac5_ (p:Pg):ACall En 151 [.ag (pgC p)] [] [.s p.text] []:=by
 refine aa_ [] Tryz.func151 Tryz.ntmps151 fun C=>?_
 refine .seq (.rg [] ?_)
 refine .seq (.rg [] ?_)
 refine .ret ⟨.inr rfl,?_⟩
 exact Out.pl (by simp only[Tryz.results151];rfl) (by simp only[ag_,go_sem,seval]<;>(simp_all))
attribute [local go_sem] a6_ in
theorem sl_ (l:List Pg) (hs:∀p∈l,pgB p) (hl:l.length≤2000000):ACall En 82 [.sl false (pgR l)] [] [.s (bo_ l)] []:=by
 refine aa_ [] Tryz.func82 Tryz.ntmps82 fun C=>?_
 refine .seq (.rg [] ?_)
 refine .seq (.rg [ab_ (aey_ _ (·.line) adn_ (fun p hp=>(m2_ (l8_ hp).1).2) l hs hl)] ?_)
 refine .ret ⟨.inr rfl,?_⟩
 exact Out.pl (by simp only[Tryz.results82];rfl) (by simp only[ag_,go_sem,seval]<;>(rfl))
attribute [local go_sem] a6_ in
theorem sa_ (l:List Pg) (hs:∀p∈l,pgB p) (hl:l.length≤2000000):ACall En 83 [.sl false (pgR l)] [] [.s (e0_ l)] []:=by
 refine aa_ [] Tryz.func83 Tryz.ntmps83 fun C=>?_
 refine .seq (.rg [] ?_)
 refine .seq (.rg [ab_ (aey_ _ (·.text) ac5_ (fun p hp=>by rw[(jp_ hp).1];exact(n7_ _).2) l hs hl)] ?_)
 refine .ret ⟨.inr rfl,?_⟩
 exact Out.pl (by simp only[Tryz.results83];rfl) (by simp only[ag_,go_sem,seval]<;>(rfl))
theorem pr_ {l:List Pg} {k:Nat} (h:(l.getD k Pg0).good=false):ga_ l (k+1)=ga_ l k++[(k:Int)]:=by rw[ga_,h];rfl
attribute [local go_sem] bl_ a6_ cn_ ao_ as_ at_ bm_ in
theorem agg_ (l:List Pg) (hs:∀p∈l,pgB p) (hl:l.length≤2000000):ACall En 87 [.sl false (pgR l)] [] [.sl false (inR (ks_ l))] []:=by
 have hB:=fun k=>ph_ l k
 refine aa_ [] Tryz.func87 Tryz.ntmps87 fun C=>?_
 refine .seq (.rgo [] ?_ ?_)
 ·(first|trivial|(simp;done)|(simp only[T3_]at h12;and_intros<;>omega)|(have:=hB k;simp[as_];omega))
 refine .seq (.seq (.rgo [ab_ (m5_ l hs hl)] ?_ ?_))
 ·(first|trivial|(simp;done)|(simp only[T3_]at h12;and_intros<;>omega)|(have:=hB k;simp[as_];omega))
 refine .cB (fun h8=>?_) (fun h8=>?_)
 ·refine .seq (.rgo [] ?_ ?_)
  ·(first|trivial|(simp;done)|(simp only[T3_]at h12;and_intros<;>omega)|(have:=hB k;simp[as_];omega))
  refine .ret ⟨.inr rfl,?_⟩
  exact Out.plL (by simp only[Tryz.results87];rfl) (by simp only[ag_,go_sem,seval]<;>(simp at h8;simp[ks_,h8,inR,les,ler,leV]))
 ·refine .skip (.seq (.rgo [] ?_ ?_))
  ·(first|trivial|(simp;done)|(simp only[T3_]at h12;and_intros<;>omega)|(have:=hB k;simp[as_];omega))
  refine .seq (.seq (.rgo [] ?_ ?_))
  ·(first|trivial|(simp;done)|(simp only[T3_]at h12;and_intros<;>omega)|(have:=hB k;simp[as_];omega))
  refine .block (.loopK (fun k:Nat=>⟨[.no,.no,.no,.ow 20 1 0 (ga_ l k).length,.no,.no,.no,.no,.no,.sl false (pgR l),.i .i64 l.length,.i .i64 k,.no,.no,.no,.no,.no,.no,.no,.no,.no,.no,.no,.no,.no,.no],ak_ [(20,⟨3,1,inR (ga_ l k)⟩)],us [20]⟩) (fun k:Nat=>k≤l.length∧bq_ l=true) (fun k:Nat=>l.length - k) (0) ?_ ?_ (fun k hI=>?_))
  ·exact⟨by simp,by simpa using h8⟩
  ·refine Can.trans (Can.ownSlot 3 20 3 1 (by simp only[go_sem,seval]<;>rfl) (by simp only[go_sem,seval]) (by simp only[go_sem,seval]<;>rfl)) ?_
   refine Can.wk ?_ ?_
   ·first|trivial|(simp[ga_])
   ·first|trivial|(simp[ga_,inR])
  refine .seq (.rgo [] ?_ ?_)
  ·(first|trivial|(simp;done)|(simp only[T3_]at h12;and_intros<;>omega)|(have:=hB k;simp[as_];omega))
  refine .seq (.cB (fun h12=>?_) (fun h12=>?_))
  ·refine .skip (.seqJ (fun u:Unit=>⟨[.no,.no,.no,.ow 20 1 0 (ga_ l (k+1)).length,.no,.no,.no,.no,.no,.sl false (pgR l),.i .i64 l.length,.i .i64 k,.no,.no,.no,.no,.no,.no,.no,.no,.no,.no,.no,.no,.no,.no],ak_ [(20,⟨3,1,inR (ga_ l (k+1))⟩)],us [20]⟩) (fun u:Unit=>True) ?_ (fun u hJ=>?_))
   ·refine .block (.seq (.rgo [] ?_ ?_ (h:=by simp only[go_sem,seval,c9_ (show k<l.length by simpa using h12)];rfl)))
    ·(first|trivial|(simp;done)|(simp only[T3_]at h12;and_intros<;>omega)|(have:=hB k;simp[as_];omega))
    refine .seq (.rgo [] ?_ ?_)
    ·(first|trivial|(simp;done)|(simp only[T3_]at h12;and_intros<;>omega)|(have:=hB k;simp[as_];omega))
    refine .cB (fun h18=>?_) (fun h18=>?_)
    ·refine .rgo [] ?_ ?_
     ·(first|trivial|(simp;done)|(simp only[T3_]at h12;and_intros<;>omega)|(have:=hB k;simp[as_];omega))
     refine Exists.intro (()) ⟨?_,?_⟩
     ·trivial
     refine Can.trans (Can.sX 32 20) ?_
     refine Can.wk ?_ ?_
     ·first|trivial|(first|(rw[p4_ (i:=k) (n:=0) (by simpa using h18)];done)|(rw[f5_ (i:=k) (by simpa using h18)];done))
     ·first|trivial|(first|(rw[pr_ (k:=k) (by simpa using h18),c2_];done)|(rw[f5_ (i:=k) (by simpa using h18)];done))
    ·refine .skip ?_
     refine Exists.intro (()) ⟨?_,?_⟩
     ·trivial
     refine Can.wk ?_ ?_
     ·first|trivial|(first|(rw[p4_ (i:=k) (n:=0) (by simpa using h18)];done)|(rw[f5_ (i:=k) (by simpa using h18)];done))
     ·first|trivial|(first|(rw[pr_ (k:=k) (by simpa using h18),c2_];done)|(rw[f5_ (i:=k) (by simpa using h18)];done))
   refine .rgo [] ?_ ?_
   ·(first|trivial|(simp;done)|(simp only[T3_]at h12;and_intros<;>omega)|(have:=hB k;simp[as_];omega))
   refine Exists.intro (k+1) ⟨?_,?_,?_⟩
   ·simp at h12;exact⟨by omega,hI.2⟩
   ·simp at h12;omega
   refine Can.wh ?_;first|trivial|(rw[aj_ (by simp at h12;omega) (by simp at h12;omega)];simp)
  ·refine .exit (.seq (.rgo [bf_ [20] [] (aj8_ (ga_ l l.length) (by have:=hB l.length;omega))] ?_ ?_))
   ·simp only[T4_]at h12;(obtain rfl:k=l.length:=(by omega));simp
   refine .fX 20 ?_
   refine .ret ⟨.inr rfl,?_⟩
   exact Out.plL (by simp only[Tryz.results87];rfl) (by simp only[ag_,go_sem,seval]<;>(rw[T1_ (by rw[as_];exact Nat.le_refl _)];simp[ks_,hI.2,les,leV,af_]))
attribute [local go_sem] bl_ a6_ cn_ ao_ cg_ b9_ in
theorem sj_ (l:List Pg) (hs:∀p∈l,pgB p) (hl:l.length≤2000000):ACall En 85 [.sl false (pgR l)] [] [.sl false (sgR (a9_ l))] []:=by
 have hE:∀k,bq_ l=true∧k<l.length→ACall En 154 [.i .i64 k,.s (l.getD k Pg0).text,.sl false (inR (l.getD k Pg0).frm)] [] [.sl false (sgR (sgs k ((a1_ (l.getD k Pg0).text).getD []) (l.getD k Pg0).frm))] []:=fun k h=>by
  obtain⟨q1,q2,_⟩:=jp_ ((cc_ h.1).2.2 k h.2)
  have hk:=va_ (l.getD k Pg0).line
  rw[q1,q2]
  exact apd_ k _ _ (by have:=ax1_ hk;omega) (by rw[aej_ hk];exact Nat.le_refl _) (by have:=aau_ hk;omega)
 have hN:∀k,bq_ l=true→k≤l.length→(gb_ l k).length≤2000:=fun k h hk=>by
  rw[aa2_ h k hk]
  have:=agy_ (ag9_ h) (k:=k) (by rw[k6_];exact hk)
  have:=(cc_ h).2.1
  omega
 refine aa_ [] Tryz.func85 Tryz.ntmps85 fun C=>?_
 refine .seq (.rgo [] ?_ ?_)
 ·(first|trivial|(simp;done)|(simp only[T3_]at h12;have hk:k<l.length:=(by omega);have q1:=hN k hI.2 (by omega);have q2:=fw_ k ((a1_ (l.getD k Pg0).text).getD []) (l.getD k Pg0).frm;have q3:=(hs _ (am_ (d:=Pg0) hk)).2.2;first|(and_intros<;>omega)|exact⟨⟨hI.2,hk⟩,of_eq_true (e4_ _),by simp,by omega⟩))
 refine .seq (.seq (.rgo [ab_ (m5_ l hs hl)] ?_ ?_))
 ·(first|trivial|(simp;done)|(simp only[T3_]at h12;have hk:k<l.length:=(by omega);have q1:=hN k hI.2 (by omega);have q2:=fw_ k ((a1_ (l.getD k Pg0).text).getD []) (l.getD k Pg0).frm;have q3:=(hs _ (am_ (d:=Pg0) hk)).2.2;first|(and_intros<;>omega)|exact⟨⟨hI.2,hk⟩,of_eq_true (e4_ _),by simp,by omega⟩))
 refine .cB (fun h8=>?_) (fun h8=>?_)
 ·refine .seq (.rgo [] ?_ ?_)
  ·(first|trivial|(simp;done)|(simp only[T3_]at h12;have hk:k<l.length:=(by omega);have q1:=hN k hI.2 (by omega);have q2:=fw_ k ((a1_ (l.getD k Pg0).text).getD []) (l.getD k Pg0).frm;have q3:=(hs _ (am_ (d:=Pg0) hk)).2.2;first|(and_intros<;>omega)|exact⟨⟨hI.2,hk⟩,of_eq_true (e4_ _),by simp,by omega⟩))
  refine .ret ⟨.inr rfl,?_⟩
  exact Out.plL (by simp only[Tryz.results85];rfl) (by simp only[ag_,go_sem,seval]<;>(simp at h8;simp[a9_,h8,sgR,ler]))
 ·refine .skip (.seq (.rgo [] ?_ ?_))
  ·(first|trivial|(simp;done)|(simp only[T3_]at h12;have hk:k<l.length:=(by omega);have q1:=hN k hI.2 (by omega);have q2:=fw_ k ((a1_ (l.getD k Pg0).text).getD []) (l.getD k Pg0).frm;have q3:=(hs _ (am_ (d:=Pg0) hk)).2.2;first|(and_intros<;>omega)|exact⟨⟨hI.2,hk⟩,of_eq_true (e4_ _),by simp,by omega⟩))
  refine .seqJ (fun u:Unit=>⟨[.no,.no,.no,.sl false (sgR (gb_ l l.length)),.no,.no,.no,.no,.no,.no,.no,.no,.no,.no,.no,.no,.no,.no,.no,.no,.no,.no,.no,.no,.no,.no,.no,.no,.no],ak_ [],us []⟩) (fun u:Unit=>bq_ l=true) ?_ (fun u hJ=>?_)
  ·refine .seq (.rgo [] ?_ ?_)
   ·(first|trivial|(simp;done)|(simp only[T3_]at h12;have hk:k<l.length:=(by omega);have q1:=hN k hI.2 (by omega);have q2:=fw_ k ((a1_ (l.getD k Pg0).text).getD []) (l.getD k Pg0).frm;have q3:=(hs _ (am_ (d:=Pg0) hk)).2.2;first|(and_intros<;>omega)|exact⟨⟨hI.2,hk⟩,of_eq_true (e4_ _),by simp,by omega⟩))
   refine .block (.loopK (fun k:Nat=>⟨[.no,.no,.no,.ow 20 4 0 (gb_ l k).length,.no,.no,.no,.no,.no,.sl false (pgR l),.i .i64 l.length,.i .i64 k,.no,.no,.no,.no,.no,.no,.no,.no,.no,.no,.no,.no,.no,.no,.no,.no,.no],ak_ [(20,⟨138,4,sgR (gb_ l k)⟩)],us [20]⟩) (fun k:Nat=>k≤l.length∧bq_ l=true) (fun k:Nat=>l.length - k) (0) ?_ ?_ (fun k hI=>?_))
   ·exact⟨by simp,by simpa using h8⟩
   ·refine Can.trans (Can.ownSlot 3 20 138 4 (by simp only[go_sem,seval]<;>rfl) (by simp only[go_sem,seval]) (by simp only[go_sem,seval]<;>rfl)) ?_
    refine Can.wk ?_ ?_
    ·first|trivial|(simp[gb_])
    ·first|trivial|(simp[gb_,sgR])
   refine .seq (.rgo [] ?_ ?_)
   ·(first|trivial|(simp;done)|(simp only[T3_]at h12;have hk:k<l.length:=(by omega);have q1:=hN k hI.2 (by omega);have q2:=fw_ k ((a1_ (l.getD k Pg0).text).getD []) (l.getD k Pg0).frm;have q3:=(hs _ (am_ (d:=Pg0) hk)).2.2;first|(and_intros<;>omega)|exact⟨⟨hI.2,hk⟩,of_eq_true (e4_ _),by simp,by omega⟩))
   refine .seq (.cB (fun h12=>?_) (fun h12=>?_))
   ·refine .skip (.seqJ (fun u:Unit=>⟨[.no,.no,.no,.ow 20 4 0 (gb_ l (k+1)).length,.no,.no,.no,.no,.no,.sl false (pgR l),.i .i64 l.length,.i .i64 k,.no,.no,.no,.no,.no,.no,.no,.no,.no,.no,.no,.no,.no,.no,.no,.no,.no],ak_ [(20,⟨138,4,sgR (gb_ l (k+1))⟩)],us [20]⟩) (fun u:Unit=>True) ?_ (fun u hJ=>?_))
    ·refine .block (.seq (.rgo [] ?_ ?_ (h:=by simp only[go_sem,seval,c9_ (show k<l.length by simpa using h12)];rfl)))
     ·(first|trivial|(simp;done)|(simp only[T3_]at h12;have hk:k<l.length:=(by omega);have q1:=hN k hI.2 (by omega);have q2:=fw_ k ((a1_ (l.getD k Pg0).text).getD []) (l.getD k Pg0).frm;have q3:=(hs _ (am_ (d:=Pg0) hk)).2.2;first|(and_intros<;>omega)|exact⟨⟨hI.2,hk⟩,of_eq_true (e4_ _),by simp,by omega⟩))
     refine .seq (.rgo [] ?_ ?_)
     ·(first|trivial|(simp;done)|(simp only[T3_]at h12;have hk:k<l.length:=(by omega);have q1:=hN k hI.2 (by omega);have q2:=fw_ k ((a1_ (l.getD k Pg0).text).getD []) (l.getD k Pg0).frm;have q3:=(hs _ (am_ (d:=Pg0) hk)).2.2;first|(and_intros<;>omega)|exact⟨⟨hI.2,hk⟩,of_eq_true (e4_ _),by simp,by omega⟩))
     refine .cB (fun h17=>?_) (fun h17=>?_)
     ·refine .rgo [a4_ (bq_ l=true∧k<l.length) (hE k)] ?_ ?_
      ·(first|trivial|(simp;done)|(simp only[T3_]at h12;have hk:k<l.length:=(by omega);have q1:=hN k hI.2 (by omega);have q2:=fw_ k ((a1_ (l.getD k Pg0).text).getD []) (l.getD k Pg0).frm;have q3:=(hs _ (am_ (d:=Pg0) hk)).2.2;first|(and_intros<;>omega)|exact⟨⟨hI.2,hk⟩,of_eq_true (e4_ _),by simp,by omega⟩))
      refine Exists.intro (()) ⟨?_,?_⟩
      ·trivial
      refine Can.trans (Can.sX 35 20) ?_
      refine Can.wk ?_ ?_
      ·first|trivial|(first|(rw[gb_,if_pos (by simpa using h17)];simp;done)|(rw[gb_,if_neg (by simpa using h17)];simp;done))
      ·first|trivial|(first|(rw[gb_,if_pos (by simpa using h17)];simp[ajj_];done)|(rw[gb_,if_neg (by simpa using h17)];simp;done))
     ·refine .skip ?_
      refine Exists.intro (()) ⟨?_,?_⟩
      ·trivial
      refine Can.wk ?_ ?_
      ·first|trivial|(first|(rw[gb_,if_pos (by simpa using h17)];simp;done)|(rw[gb_,if_neg (by simpa using h17)];simp;done))
      ·first|trivial|(first|(rw[gb_,if_pos (by simpa using h17)];simp[ajj_];done)|(rw[gb_,if_neg (by simpa using h17)];simp;done))
    refine .rgo [] ?_ ?_
    ·(first|trivial|(simp;done)|(simp only[T3_]at h12;have hk:k<l.length:=(by omega);have q1:=hN k hI.2 (by omega);have q2:=fw_ k ((a1_ (l.getD k Pg0).text).getD []) (l.getD k Pg0).frm;have q3:=(hs _ (am_ (d:=Pg0) hk)).2.2;first|(and_intros<;>omega)|exact⟨⟨hI.2,hk⟩,of_eq_true (e4_ _),by simp,by omega⟩))
    refine Exists.intro (k+1) ⟨?_,?_,?_⟩
    ·simp at h12;exact⟨by omega,hI.2⟩
    ·simp at h12;omega
    refine Can.wh ?_;first|trivial|(rw[aj_ (by simp at h12;omega) (by simp at h12;omega)];simp)
   ·refine .exit ?_
    refine Exists.intro (()) ⟨?_,?_⟩
    ·exact hI.2
    refine Can.trans (Can.frz 20 (by simp only[go_sem,seval]<;>rfl) (by simp only[go_sem,seval]) (by simp only[go_sem,seval]<;>rfl) (by simp only[go_sem,seval]<;>rfl)) ?_
    refine Can.wh ?_;first|trivial|(simp at h12;(obtain rfl:k=l.length:=(by omega));simp[T1_,b9_,leV,af_])
  refine .seq (.rgo [a4_ (bq_ l=true) (fun h=>al4_ (gb_ l l.length) (by have:=hN _ h (Nat.le_refl _);omega))] ?_ ?_)
  ·(first|trivial|(simp;done)|(simp only[T3_]at h12;have hk:k<l.length:=(by omega);have q1:=hN k hI.2 (by omega);have q2:=fw_ k ((a1_ (l.getD k Pg0).text).getD []) (l.getD k Pg0).frm;have q3:=(hs _ (am_ (d:=Pg0) hk)).2.2;first|(and_intros<;>omega)|exact⟨⟨hI.2,hk⟩,of_eq_true (e4_ _),by simp,by omega⟩))
  refine .ret ⟨.inr rfl,?_⟩
  exact Out.plL (by simp only[Tryz.results85];rfl) (by simp only[ag_,go_sem,seval]<;>(simp[a9_,hJ,af_,leV]))
end
section
set_option maxRecDepth 100000
set_option maxHeartbeats 4000000
attribute [local go_sem] cn_ ao_ as_ in
theorem al7_ (p q:Pg) (hp:pgB p) (hq:pgB q):ACall En 178 [.ag (pgC p),.ag (pgC q)] [] [.b (decide (p=q))] []:=by
 have h1:=hp.2.2
 have h2:=hq.2.2
 refine aa_ [] Tryz.func178 Tryz.ntmps178 fun C=>?_
 refine .seq (.rg [] ?_)
 refine .seq (.seq (.rg [] ?_))
 refine .cB (fun h33=>?_) (fun h33=>?_)
 ·refine .seq (.rg [] ?_)
  refine .ret ⟨.inr rfl,?_⟩
  exact Out.pl (by simp only[Tryz.results178];rfl) (by simp only[ag_,go_sem,seval]<;>(rw[decide_eq_false];rintro rfl;simp at h33))
 ·refine .skip (.seq (.seq (.rg [] ?_)))
  refine .block (.loopK (fun k:Nat=>⟨[.no,.no,.pt 12 4 0 0,.pt 13 4 0 0,.no,.i .i64 k,.no,.no,.no,.no,.no,.no,.no,.no,.no,.no,.no,.no,.no,.no,.no,.no,.no,.no,.no,.no,.no,.no,.no,.no,.no,.no,.no,.no,.no,.no,.no,.no,.no,.no,.no,.no,.no,.no,.no,.no,.no,.no,.no,.no,.no,.no],ak_ [(12,⟨67,4,[pgC p]⟩),(13,⟨67,4,[pgC q]⟩)],us [12,13]⟩) (fun k:Nat=>k≤p.frm.length∧p.frm.take k=q.frm.take k) (fun k:Nat=>p.frm.length - k) (0) ?_ ?_ (fun k hI=>?_))
  ·exact⟨Nat.zero_le _,rfl⟩
  ·refine Can.wh ?_;first|trivial|((try simp))
  refine .seq (.seq (.rg [] ?_))
  refine .cB (fun h38=>?_) (fun h38=>?_)
  ·refine .skip (.seq (.block (.seq (.rgDo [] ?_ ?_ (h:=by simp only[go_sem,seval,c8_ (show k<p.frm.length by simpa using h38),c8_ (show k<q.frm.length by have e:=(tf_ h33).2.2.2;simp only[T3_]at h38;omega)];rfl)))))
   ·have e:=(tf_ h33).2.2.2;simp only[T3_]at h38;and_intros<;>omega
   refine .cB (fun h51=>?_) (fun h51=>?_)
   ·refine .seq (.rg [] ?_)
    refine .ret ⟨.inr rfl,?_⟩
    exact Out.pl (by simp only[Tryz.results178];rfl) (by simp only[ag_,go_sem,seval]<;>(rw[decide_eq_false];rintro rfl;simp at h51))
   ·refine .skip (.rg [] ?_)
    refine Exists.intro (k+1) ⟨?_,?_,?_⟩
    ·have e:=(tf_ h33).2.2.2;simp only[T3_]at h38;exact⟨by omega,ab9_ (d:=0) (by omega) (by omega) hI.2 (bne_eq_false_iff_eq.1 h51)⟩
    ·simp only[T3_]at h38;omega
    refine Can.wh ?_;first|trivial|(simp only[T3_]at h38;exact aj_ (n:=((k+1:Nat):Int)) (by omega) (by omega))
  ·refine .exit (.seq (.rg [] ?_))
   refine .ret ⟨.inr rfl,?_⟩
   exact Out.pl (by simp only[Tryz.results178];rfl) (by simp only[ag_,go_sem,seval]<;>(simp only[T4_]at h38;have e:=tf_ h33;have e2:=hI.2;rw[T1_ (by omega),T1_ (by omega)]at e2;rw[decide_eq_true (acs_.2 ⟨⟨⟨e.1,e.2.1⟩,e.2.2.1⟩,e2⟩)]))
theorem avw_ {l:List Pg} {k:Nat} (h:k<l.length):(l.take (k+1)).all okP=((l.take k).all okP&&okP (l.getD k Pg0)):=by
 rw[List.take_add_one,T6_ h,List.all_append,T8_,T6_ h];simp
theorem apf_ {l:List Pg} {k:Nat} (hk:k<l.length) (h:okP (l.getD k Pg0)=false):bq_ l=false:=by
 rw[Bool.eq_false_iff];intro q
 rw[(cc_ q).2.2 k hk]at h;cases h
theorem avu_ {p:Pg} (h:(!tOk p.line||decide (((spl p.line).length:Int) > 1)||!decide (p=du_ p.line))=false):okP p=true:=by
 rw[xb_,←Bool.not_and,Bool.not_eq_false']at h;exact h
theorem ass_ {p:Pg} (h:(!tOk p.line||decide (((spl p.line).length:Int) > 1)||!decide (p=du_ p.line))=true):okP p=false:=by
 rw[xb_,←Bool.not_and,Bool.not_eq_true']at h;exact h
theorem bkTk {ls:List Str} {k:Nat} (h:k<ls.length):pgR ((ls.take (k+1)).map du_)=pgR ((ls.take k).map du_)++[pgC (du_ (ls.getD k []))]:=by
 rw[List.take_add_one,T6_ h,T8_,T6_ h,List.map_append];unfold pgR;rw[List.map_append];rfl
theorem txTk {f:Pg→Str} {l:List Pg} {k:Nat} (h:k<l.length):an_ ((l.take (k+1)).map f)=an_ ((l.take k).map f)++[[.s (f (l.getD k Pg0))]]:=by
 rw[List.take_add_one,T6_ h,T8_,T6_ h,List.map_append];unfold an_;rw[List.map_append];rfl
attribute [local go_sem] bl_ a6_ cn_ ao_ al_ aq_ in
theorem hl_ (l:List Pg) (hs:∀p∈l,pgB p) (hl:l.length≤2000000):ACall En 112 [.sl false (pgR l)] [] [.b (bq_ l)] []:=by
 have hB:∀k,k<l.length→pgB (l.getD k Pg0):=fun k h=>hs _ (am_ h)
 refine aa_ [] Tryz.func112 Tryz.ntmps112 fun C=>?_
 refine .seq (.rg [] ?_)
 refine .seq (.seq (.rg [] ?_))
 refine .block (.loopK (fun k:Nat=>⟨[.sl false (pgR l),.no,.no,.i .i64 k,.no,.no,.no,.no,.no,.no,.no,.no,.no,.no,.no,.no,.no,.no,.no,.no,.no,.no,.no,.no,.no,.no,.no,.no,.no,.no,.no,.no,.no,.no,.no,.no,.no,.no,.no,.no,.no,.no,.no,.no,.no,.no,.no,.no,.no],ak_ [],us []⟩) (fun k:Nat=>k≤l.length∧(l.take k).all okP=true) (fun k:Nat=>l.length - k) (0) ?_ ?_ (fun k hI=>?_))
 ·exact⟨Nat.zero_le _,rfl⟩
 ·refine Can.wh ?_;first|trivial|((try simp))
 refine .seq (.seq (.rg [] ?_))
 refine .cB (fun h7=>?_) (fun h7=>?_)
 ·refine .skip (.seq (.block (.seq (.rgDo [a4_ (k<l.length) (fun h=>mr_ (l.getD k Pg0).line (by have:=(hB k h).1;omega)),a4_ (k<l.length∧tOk (l.getD k Pg0).line=true) (fun h=>or_ (l.getD k Pg0).line (mg_ h.2)),a4_ (k<l.length) (fun h=>m0_ (l.getD k Pg0).line (by have:=(hB k h).1;omega)),a4_ (k<l.length) (fun h=>al7_ (l.getD k Pg0) (du_ (l.getD k Pg0).line) (hB k h) (zo_ (hB k h).1))] ?_ ?_ (h:=by simp only[go_sem,seval,c9_ (show k<l.length by simpa using h7)];rfl)))))
  ·simp only[T3_]at h7;and_intros<;>first|omega|trivial|exact fun h=>⟨h,by omega,by omega⟩|exact fun h=>⟨h,by omega⟩|exact fun h=>⟨h,by omega,by simpa using h⟩|exact fun h=>by rw[h];rfl
  refine .cB (fun h40=>?_) (fun h40=>?_)
  ·refine .seq (.rg [] ?_)
   refine .ret ⟨.inr rfl,?_⟩
   exact Out.pl (by simp only[Tryz.results112];rfl) (by simp only[ag_,go_sem,seval]<;>(rw[apf_ (k:=k) (by simpa using h7) (ass_ h40)]))
  ·refine .skip (.rg [] ?_)
   refine Exists.intro (k+1) ⟨?_,?_,?_⟩
   ·simp at h7;refine⟨by omega,?_⟩;rw[avw_ h7,hI.2,avu_ h40];rfl
   ·simp at h7;omega
   refine Can.wh ?_;first|trivial|(rw[aj_ (by simp at h7;omega) (by simp at h7;omega)];(try simp))
 ·refine .exit (.seq (.rg [] ?_))
  refine .ret ⟨.inr rfl,?_⟩
  exact Out.pl (by simp only[Tryz.results112];rfl) (by simp only[ag_,go_sem,seval]<;>(simp only[T4_]at h7;have e:=hI.2;rw[T1_ (by omega)]at e;unfold bq_;rw[e];simp only[dq_,Bool.and_true];rfl))
attribute [local go_sem] al_ aq_ a6_ bl_ cn_ ao_ in
theorem af2_ (s:Str) (hs:s.length≤281474976710656):ACall En 8 [.s s] [] [.ow 0 4 0 (jk_ s).length] [⟨67,4,pgR (jk_ s)⟩]:=by
 have hL:=e1_ s
 have hM:=hb_ s
 have hb:jk_ s=if (bt_ s).length≤16 then(bt_ s).map du_ else []:=rfl
 have T:=k8_ s hs
 generalize bt_ s=ls at *
 refine aa_ [60] Tryz.func8 Tryz.ntmps8 fun C=>?_
 refine .seq (.rgo [] ?_ ?_)
 ·(first|trivial|(simp;done)|(simp only[T3_,T4_]at h11 h16;and_intros<;>first|omega|(simp;done)|(simp;omega)))
 refine .seq (.rgo [] ?_ ?_)
 ·(first|trivial|(simp;done)|(simp only[T3_,T4_]at h11 h16;and_intros<;>first|omega|(simp;done)|(simp;omega)))
 refine .seq (.rgo [ab_ T] ?_ ?_)
 ·(first|trivial|(simp;done)|(simp only[T3_,T4_]at h11 h16;and_intros<;>first|omega|(simp;done)|(simp;omega)))
 refine .seq (.seq (.rgo [] ?_ ?_))
 ·(first|trivial|(simp;done)|(simp only[T3_,T4_]at h11 h16;and_intros<;>first|omega|(simp;done)|(simp;omega)))
 refine .cB (fun h11=>?_) (fun h11=>?_)
 ·refine .seq (.rgo [] ?_ ?_)
  ·(first|trivial|(simp;done)|(simp only[T3_,T4_]at h11 h16;and_intros<;>first|omega|(simp;done)|(simp;omega)))
  refine .can (Can.ownSlot 2 60 67 4 (by simp only[go_sem,seval]<;>rfl) (by simp only[go_sem,seval]) (by simp only[go_sem,seval]<;>rfl)) ?_
  refine .ret ⟨.inr rfl,?_⟩
  exact Out.mm (by simp only[Tryz.results8];rfl) (by simp only[ag_,rns,rn,go_sem,seval]<;>(rw[show jk_ s=[] by rw[hb,if_neg (by simp at h11;omega)]];rfl)) (by simp only[at_,go_sem,seval]<;>(rw[show jk_ s=[] by rw[hb,if_neg (by simp at h11;omega)]];rfl))
 ·refine .skip (.seq (.seq (.rgo [] ?_ ?_)))
  ·(first|trivial|(simp;done)|(simp only[T3_,T4_]at h11 h16;and_intros<;>first|omega|(simp;done)|(simp;omega)))
  refine .block (.loopK (fun k:Nat=>⟨[.no,.no,.no,.ow 60 4 0 k,.sl false (an_ ls),.i .i64 k,.no,.no,.no,.no,.no,.no,.no,.no,.no,.no,.no,.no,.no,.no,.no,.no,.no,.no,.no,.no,.no,.no],ak_ [(60,⟨67,4,pgR ((ls.take k).map du_)⟩)],us [60]⟩) (fun k:Nat=>k≤ls.length) (fun k:Nat=>ls.length - k) (0) ?_ ?_ (fun k hI=>?_))
  ·simp
  ·refine Can.trans (Can.ownSlot 3 60 67 4 (by simp only[go_sem,seval]<;>rfl) (by simp only[go_sem,seval]) (by simp only[go_sem,seval]<;>rfl)) ?_
   refine Can.wk ?_ ?_
   ·first|trivial|((try simp))
   ·first|trivial|((try simp[pgR]))
  refine .seq (.seq (.rgo [] ?_ ?_))
  ·(first|trivial|(simp;done)|(simp only[T3_,T4_]at h11 h16;and_intros<;>first|omega|(simp;done)|(simp;omega)))
  refine .cB (fun h16=>?_) (fun h16=>?_)
  ·refine .skip (.seq (.block (.rgo [a4_ (k<ls.length) (fun h=>m0_ (ls.getD k []) (by have:=hM _ (am_ (d:=[]) h);omega))] ?_ ?_ (h:=by simp only[go_sem,seval,aw_ (show k<ls.length by simpa using h16)];rfl))))
   ·(first|trivial|(simp;done)|(simp only[T3_,T4_]at h11 h16;and_intros<;>first|omega|(simp;done)|(simp;omega)))
   refine .rgo [] ?_ ?_
   ·(first|trivial|(simp;done)|(simp only[T3_,T4_]at h11 h16;and_intros<;>first|omega|(simp;done)|(simp;omega)))
   refine Exists.intro (k+1) ⟨?_,?_,?_⟩
   ·simp at h16;omega
   ·simp at h16;omega
   refine Can.trans (Can.sX 36 60) ?_
   refine Can.wk ?_ ?_
   ·first|trivial|(rw[aj_ (by simp at h16;omega) (by simp at h16;omega)];(try simp))
   ·first|trivial|(rw[bkTk (by simpa using h16),cn_])
  ·refine .exit (.seq (.rgo [] ?_ ?_))
   ·(first|trivial|(simp;done)|(simp only[T3_,T4_]at h11 h16;and_intros<;>first|omega|(simp;done)|(simp;omega)))
   refine .ret ⟨.inr rfl,?_⟩
   exact Out.mm (by simp only[Tryz.results8];rfl) (by simp only[ag_,rns,rn,go_sem,seval]<;>(simp only[T4_]at h11 h16;rw[show jk_ s=ls.map du_ by rw[hb,if_pos (by omega)],List.length_map,show k=ls.length by omega])) (by simp only[at_,go_sem,seval]<;>(simp only[T4_]at h11 h16;rw[show jk_ s=ls.map du_ by rw[hb,if_pos (by omega)],T1_ (show ls.length≤k by omega)]))
theorem al6_ (s:Str) (hs:s.length≤281474976710656):ACall En 8 [.s s] [] [.sl false (pgR (jk_ s))] []:=
 (af2_ s hs).frz1 (by simp[er_,frz,bl_,T1_])
def fTx (f:Pg→Str) (l:List Pg):List Str:=if bq_ l then l.map f else []
theorem ape_ {f:Pg→Str} {l:List Pg} (hf:∀p,okP p=true→(f p).length≤120):(ce_ (fTx f l)).length≤3000∧(fTx f l).length≤16:=by
 unfold fTx
 split
 ·rename_i h
  have h1:=(cc_ h).2.1
  have:=aj6_ (l:=l.map f) (k:=120) fun s hs=>by
   obtain⟨p,hp,rfl⟩:=List.mem_map.1 hs
   exact hf p (ix_ h p hp)
  rw[List.length_map]at this
  have:=Nat.mul_le_mul_right 121 h1
  exact⟨by omega,by rw[List.length_map];exact h1⟩
 ·simp[qj_]
theorem aoc_ (f:Pg→Str) (l:List Pg):ce_ (fTx f l)=if bq_ l then ce_ (l.map f)else []:=by
 unfold fTx;split<;>rfl
theorem txE {f:Pg→Str} {l:List Pg} {k:Nat} (hk:k≤l.length) (h:bq_ l=true∨k=0) (h2:(decide ((k:Int)<l.length)&&bq_ l)=false):(l.take k).map f=fTx f l:=by
 unfold fTx
 cases hb:bq_ l with
 |true=>
  rw[hb]at h2
  simp at h2
  rw[if_pos rfl,T1_ h2]
 |false=>
  rw[hb]at h
  obtain rfl:k=0:=by simpa using h
  simp
theorem txJ {f:Pg→Str} {l:List Pg} {k:Nat} (hk:k≤l.length) (h:bq_ l=true∨k=0) (h2:(decide ((k:Int)<l.length)&&bq_ l)=false):leV (if k≤((l.take k).map f).length then V.sl false ((an_ ((l.take k).map f)).take k)else V.no) (V.sl false (an_ (fTx f l))):=by
 rw[if_pos (by simp;omega),T1_ (by rw[al_,List.length_map,List.length_take];exact Nat.min_le_left _ _),txE hk h h2]
 exact⟨fun h=>h,af_ _⟩
theorem bnE {l:List Pg} {k:Nat} (hk:k≤l.length) (h:bq_ l=true∨k=0) (h2:(decide ((k:Int)<l.length)&&bq_ l)=false):ga_ l k=ks_ l:=by
 unfold ks_
 cases hb:bq_ l with
 |true=>
  rw[hb]at h2
  simp at h2
  rw[if_pos rfl,show k=l.length by omega]
 |false=>
  rw[hb]at h
  obtain rfl:k=0:=by simpa using h
  rfl
attribute [local go_sem] bl_ a6_ cn_ ao_ aq_ al_ in
theorem r8_ (l:List Pg) (hs:∀p∈l,pgB p) (hl:l.length≤2000000):ACall En 61 [.sl false (pgR l)] [] [.s (bo_ l)] []:=by
 have hT:=ape_ (f:=(·.line)) (l:=l) (fun p hp=>(m2_ (l8_ hp).1).2)
 have hX:bo_ l=ce_ (fTx (·.line) l):=by rw[aoc_];rfl
 refine aa_ [] Tryz.func61 Tryz.ntmps61 fun C=>?_
 refine .seq (.rgo [] ?_ ?_)
 ·(first|trivial|(simp;done)|(simp only[T5_,T3_]at h13;and_intros<;>first|omega|(simp;done)|(simp;omega)))
 refine .seq (.rgo [] ?_ ?_)
 ·(first|trivial|(simp;done)|(simp only[T5_,T3_]at h13;and_intros<;>first|omega|(simp;done)|(simp;omega)))
 refine .seqJ (fun u:Unit=>⟨[.no,.no,.no,.sl false (an_ (fTx (·.line) l)),.no,.no,.no,.no,.no,.no,.no,.no,.no,.no,.no,.no,.no,.no,.no,.no,.no,.no,.no,.no,.no,.no],ak_ [],us []⟩) (fun u:Unit=>True) ?_ (fun u hJ=>?_)
 ·refine .seq (.rgo [] ?_ ?_)
  ·(first|trivial|(simp;done)|(simp only[T5_,T3_]at h13;and_intros<;>first|omega|(simp;done)|(simp;omega)))
  refine .block (.loopK (fun k:Nat=>⟨[.sl false (pgR l),.no,.no,.ow 60 1 0 k,.i .i64 k,.no,.no,.no,.no,.no,.no,.no,.no,.no,.no,.no,.no,.no,.no,.no,.no,.no,.no,.no,.no,.no],ak_ [(60,⟨9,1,an_ ((l.take k).map (·.line))⟩)],us [60]⟩) (fun k:Nat=>k≤l.length∧(bq_ l=true∨k=0)) (fun k:Nat=>l.length - k) (0) ?_ ?_ (fun k hI=>?_))
  ·exact⟨Nat.zero_le _,.inr rfl⟩
  ·refine Can.trans (Can.ownSlot 3 60 9 1 (by simp only[go_sem,seval]<;>rfl) (by simp only[go_sem,seval]) (by simp only[go_sem,seval]<;>rfl)) ?_
   refine Can.wk ?_ ?_
   ·first|trivial|((try simp))
   ·first|trivial|((try simp[an_]))
  refine .seq (.seq (.rgo [ab_ (hl_ l hs hl)] ?_ ?_))
  ·(first|trivial|(simp;done)|(simp only[T5_,T3_]at h13;and_intros<;>first|omega|(simp;done)|(simp;omega)))
  refine .cB (fun h13=>?_) (fun h13=>?_)
  ·refine .skip (.seq (.block (.rgo [] ?_ ?_ (h:=by simp only[go_sem,seval,c9_ (show k<l.length by simp at h13;omega)];rfl))))
   ·(first|trivial|(simp;done)|(simp only[T5_,T3_]at h13;and_intros<;>first|omega|(simp;done)|(simp;omega)))
   refine .rgo [] ?_ ?_
   ·(first|trivial|(simp;done)|(simp only[T5_,T3_]at h13;and_intros<;>first|omega|(simp;done)|(simp;omega)))
   refine Exists.intro (k+1) ⟨?_,?_,?_⟩
   ·simp at h13;exact⟨by omega,.inl h13.2⟩
   ·simp at h13;omega
   refine Can.trans (Can.sX 33 60) ?_
   refine Can.wk ?_ ?_
   ·first|trivial|(rw[aj_ (by simp at h13;omega) (by simp at h13;omega)];(try simp))
   ·first|trivial|(simp at h13;rw[txTk h13.1])
  ·refine .exit ?_
   refine Exists.intro (()) ⟨?_,?_⟩
   ·trivial
   refine Can.trans (Can.frz 60 (by simp only[go_sem,seval]<;>rfl) (by simp only[go_sem,seval]) (by simp only[go_sem,seval]<;>rfl) (by simp only[go_sem,seval]<;>rfl)) ?_
   refine Can.wh ?_;first|trivial|(exact txJ hI.1 hI.2 h13)
 refine .seq (.rgo [ab_ (sf_ (fTx (·.line) l) (by omega) (by omega))] ?_ ?_)
 ·(first|trivial|(simp;done)|(simp only[T5_,T3_]at h13;and_intros<;>first|omega|(simp;done)|(simp;omega)))
 refine .ret ⟨.inr rfl,?_⟩
 exact Out.pl (by simp only[Tryz.results61];rfl) (by simp only[ag_,go_sem,seval]<;>(rw[hX]))
attribute [local go_sem] bl_ a6_ cn_ ao_ aq_ al_ in
theorem sk_ (l:List Pg) (hs:∀p∈l,pgB p) (hl:l.length≤2000000):ACall En 62 [.sl false (pgR l)] [] [.s (e0_ l)] []:=by
 have hT:=ape_ (f:=(·.text)) (l:=l) (fun p hp=>by rw[(jp_ hp).1];exact(n7_ _).2)
 have hX:e0_ l=ce_ (fTx (·.text) l):=by rw[aoc_];rfl
 refine aa_ [] Tryz.func62 Tryz.ntmps62 fun C=>?_
 refine .seq (.rgo [] ?_ ?_)
 ·(first|trivial|(simp;done)|(simp only[T5_,T3_]at h13;and_intros<;>first|omega|(simp;done)|(simp;omega)))
 refine .seq (.rgo [] ?_ ?_)
 ·(first|trivial|(simp;done)|(simp only[T5_,T3_]at h13;and_intros<;>first|omega|(simp;done)|(simp;omega)))
 refine .seqJ (fun u:Unit=>⟨[.no,.no,.no,.sl false (an_ (fTx (·.text) l)),.no,.no,.no,.no,.no,.no,.no,.no,.no,.no,.no,.no,.no,.no,.no,.no,.no,.no,.no,.no,.no,.no],ak_ [],us []⟩) (fun u:Unit=>True) ?_ (fun u hJ=>?_)
 ·refine .seq (.rgo [] ?_ ?_)
  ·(first|trivial|(simp;done)|(simp only[T5_,T3_]at h13;and_intros<;>first|omega|(simp;done)|(simp;omega)))
  refine .block (.loopK (fun k:Nat=>⟨[.sl false (pgR l),.no,.no,.ow 60 1 0 k,.i .i64 k,.no,.no,.no,.no,.no,.no,.no,.no,.no,.no,.no,.no,.no,.no,.no,.no,.no,.no,.no,.no,.no],ak_ [(60,⟨9,1,an_ ((l.take k).map (·.text))⟩)],us [60]⟩) (fun k:Nat=>k≤l.length∧(bq_ l=true∨k=0)) (fun k:Nat=>l.length - k) (0) ?_ ?_ (fun k hI=>?_))
  ·exact⟨Nat.zero_le _,.inr rfl⟩
  ·refine Can.trans (Can.ownSlot 3 60 9 1 (by simp only[go_sem,seval]<;>rfl) (by simp only[go_sem,seval]) (by simp only[go_sem,seval]<;>rfl)) ?_
   refine Can.wk ?_ ?_
   ·first|trivial|((try simp))
   ·first|trivial|((try simp[an_]))
  refine .seq (.seq (.rgo [ab_ (hl_ l hs hl)] ?_ ?_))
  ·(first|trivial|(simp;done)|(simp only[T5_,T3_]at h13;and_intros<;>first|omega|(simp;done)|(simp;omega)))
  refine .cB (fun h13=>?_) (fun h13=>?_)
  ·refine .skip (.seq (.block (.rgo [] ?_ ?_ (h:=by simp only[go_sem,seval,c9_ (show k<l.length by simp at h13;omega)];rfl))))
   ·(first|trivial|(simp;done)|(simp only[T5_,T3_]at h13;and_intros<;>first|omega|(simp;done)|(simp;omega)))
   refine .rgo [] ?_ ?_
   ·(first|trivial|(simp;done)|(simp only[T5_,T3_]at h13;and_intros<;>first|omega|(simp;done)|(simp;omega)))
   refine Exists.intro (k+1) ⟨?_,?_,?_⟩
   ·simp at h13;exact⟨by omega,.inl h13.2⟩
   ·simp at h13;omega
   refine Can.trans (Can.sX 33 60) ?_
   refine Can.wk ?_ ?_
   ·first|trivial|(rw[aj_ (by simp at h13;omega) (by simp at h13;omega)];(try simp))
   ·first|trivial|(simp at h13;rw[txTk h13.1])
  ·refine .exit ?_
   refine Exists.intro (()) ⟨?_,?_⟩
   ·trivial
   refine Can.trans (Can.frz 60 (by simp only[go_sem,seval]<;>rfl) (by simp only[go_sem,seval]) (by simp only[go_sem,seval]<;>rfl) (by simp only[go_sem,seval]<;>rfl)) ?_
   refine Can.wh ?_;first|trivial|(exact txJ hI.1 hI.2 h13)
 refine .seq (.rgo [ab_ (sf_ (fTx (·.text) l) (by omega) (by omega))] ?_ ?_)
 ·(first|trivial|(simp;done)|(simp only[T5_,T3_]at h13;and_intros<;>first|omega|(simp;done)|(simp;omega)))
 refine .ret ⟨.inr rfl,?_⟩
 exact Out.pl (by simp only[Tryz.results62];rfl) (by simp only[ag_,go_sem,seval]<;>(rw[hX]))
attribute [local go_sem] bl_ a6_ cn_ ao_ as_ in
theorem agn_ (l:List Pg) (hs:∀p∈l,pgB p) (hl:l.length≤2000000):ACall En 66 [.sl false (pgR l)] [] [.sl false (inR (ks_ l))] []:=by
 have hB:=fun k=>ph_ l k
 refine aa_ [] Tryz.func66 Tryz.ntmps66 fun C=>?_
 refine .seq (.rgo [] ?_ ?_)
 ·(first|trivial|(simp;done)|(simp only[T5_,T3_]at h13;and_intros<;>omega)|(have:=hB k;simp[as_];omega))
 refine .seq (.rgo [] ?_ ?_)
 ·(first|trivial|(simp;done)|(simp only[T5_,T3_]at h13;and_intros<;>omega)|(have:=hB k;simp[as_];omega))
 refine .seq (.seq (.rgo [] ?_ ?_))
 ·(first|trivial|(simp;done)|(simp only[T5_,T3_]at h13;and_intros<;>omega)|(have:=hB k;simp[as_];omega))
 refine .block (.loopK (fun k:Nat=>⟨[.sl false (pgR l),.no,.no,.ow 60 1 0 (ga_ l k).length,.i .i64 k,.no,.no,.no,.no,.no,.no,.no,.no,.no,.no,.no,.no,.no,.no,.no,.no,.no,.no,.no,.no,.no,.no],ak_ [(60,⟨3,1,inR (ga_ l k)⟩)],us [60]⟩) (fun k:Nat=>k≤l.length∧(bq_ l=true∨k=0)) (fun k:Nat=>l.length - k) (0) ?_ ?_ (fun k hI=>?_))
 ·exact⟨Nat.zero_le _,.inr rfl⟩
 ·refine Can.trans (Can.ownSlot 3 60 3 1 (by simp only[go_sem,seval]<;>rfl) (by simp only[go_sem,seval]) (by simp only[go_sem,seval]<;>rfl)) ?_
  refine Can.wk ?_ ?_
  ·first|trivial|((try simp[ga_]))
  ·first|trivial|((try simp[ga_,inR]))
 refine .seq (.seq (.rgo [ab_ (hl_ l hs hl)] ?_ ?_))
 ·(first|trivial|(simp;done)|(simp only[T5_,T3_]at h13;and_intros<;>omega)|(have:=hB k;simp[as_];omega))
 refine .cB (fun h13=>?_) (fun h13=>?_)
 ·refine .skip (.seqJ (fun u:Unit=>⟨[.sl false (pgR l),.no,.no,.ow 60 1 0 (ga_ l (k+1)).length,.i .i64 k,.no,.no,.no,.no,.no,.no,.no,.no,.no,.no,.no,.no,.no,.no,.no,.no,.no,.no,.no,.no,.no,.no],ak_ [(60,⟨3,1,inR (ga_ l (k+1))⟩)],us [60]⟩) (fun u:Unit=>True) ?_ (fun u hJ=>?_))
  ·refine .block (.seq (.rgo [] ?_ ?_ (h:=by simp only[go_sem,seval,c9_ (show k<l.length by simp at h13;omega)];rfl)))
   ·(first|trivial|(simp;done)|(simp only[T5_,T3_]at h13;and_intros<;>omega)|(have:=hB k;simp[as_];omega))
   refine .cB (fun h21=>?_) (fun h21=>?_)
   ·refine .rgo [] ?_ ?_
    ·(first|trivial|(simp;done)|(simp only[T5_,T3_]at h13;and_intros<;>omega)|(have:=hB k;simp[as_];omega))
    refine Exists.intro (()) ⟨?_,?_⟩
    ·trivial
    refine Can.trans (Can.sX 35 60) ?_
    refine Can.wk ?_ ?_
    ·first|trivial|(first|(rw[p4_ (i:=k) (n:=0) (by simpa using h21)];done)|(rw[f5_ (i:=k) (by simpa using h21)];done))
    ·first|trivial|(first|(rw[pr_ (k:=k) (by simpa using h21),c2_];done)|(rw[f5_ (i:=k) (by simpa using h21)];done))
   ·refine .skip ?_
    refine Exists.intro (()) ⟨?_,?_⟩
    ·trivial
    refine Can.wk ?_ ?_
    ·first|trivial|(first|(rw[p4_ (i:=k) (n:=0) (by simpa using h21)];done)|(rw[f5_ (i:=k) (by simpa using h21)];done))
    ·first|trivial|(first|(rw[pr_ (k:=k) (by simpa using h21),c2_];done)|(rw[f5_ (i:=k) (by simpa using h21)];done))
  refine .rgo [] ?_ ?_
  ·(first|trivial|(simp;done)|(simp only[T5_,T3_]at h13;and_intros<;>omega)|(have:=hB k;simp[as_];omega))
  refine Exists.intro (k+1) ⟨?_,?_,?_⟩
  ·simp at h13;exact⟨by omega,.inl h13.2⟩
  ·simp at h13;omega
  refine Can.wh ?_;first|trivial|(rw[aj_ (by simp at h13;omega) (by simp at h13;omega)];(try simp))
 ·refine .exit (.seq (.rgo [] ?_ ?_))
  ·(first|trivial|(simp;done)|(simp only[T5_,T3_]at h13;and_intros<;>omega)|(have:=hB k;simp[as_];omega))
  refine .fX 60 ?_
  refine .ret ⟨.inr rfl,?_⟩
  exact Out.pl (by simp only[Tryz.results66];rfl) (by simp only[ag_,go_sem,seval]<;>(rw[bnE hI.1 hI.2 h13,T1_ (by rw[as_];exact Nat.le_refl _)]))
end
section
set_option maxRecDepth 100000
set_option maxHeartbeats 4000000
def qh_ (l:List Pg) (k j:Nat):List Sg:=gb_ l k++sgK k ((a1_ (l.getD k Pg0).text).getD []) (l.getD k Pg0).frm j
theorem lv_ {l:List Pg} (h:bq_ l=true) {k:Nat} (hk:k<l.length):((a1_ (l.getD k Pg0).text).getD []).length=(l.getD k Pg0).frm.length∧(l.getD k Pg0).frm.length≤76:=by
 obtain⟨q1,q2,_⟩:=jp_ ((cc_ h).2.2 k hk)
 have hs:=va_ (l.getD k Pg0).line
 rw[q1,q2]
 exact⟨by rw[aej_ hs],aau_ hs⟩
theorem xg_ (l:List Pg) (k:Nat):qh_ l k 0=gb_ l k:=by unfold qh_;rw[t2_,List.append_nil]
theorem acg_ {l:List Pg} (h:bq_ l=true) {k j:Nat} (hk:k<l.length) (hj:(l.getD k Pg0).frm.length≤j):qh_ l k j=gb_ l (k+1):=by
 have h1:=lv_ h hk
 unfold qh_
 rw[ajq_ (.inr hj),gb_]
 congr 1
 cases hg:(l.getD k Pg0).good with
 |true=>rfl
 |false=>
  have ho:=(cc_ h).2.2 k hk
  have:=(jp_ ho).2.1
  rw[arc_ ho hg,emF_S0]at this
  rw[this];unfold sgs;simp
theorem h0_ {l:List Pg} (h:bq_ l=true) {k j:Nat} (hk:k<l.length) (hj:j<(l.getD k Pg0).frm.length):qh_ l k (j+1)=qh_ l k j++(if 0≤(l.getD k Pg0).frm.getD j 0 then [((k:Int),(((a1_ (l.getD k Pg0).text).getD []).getD j T0k).col,(k:Int),(l.getD k Pg0).frm.getD j 0)]else []):=by
 have h1:=lv_ h hk
 unfold qh_
 rw[gg_ (by omega) hj,List.append_assoc]
theorem fu_ {l:List Pg} (h:bq_ l=true) {k j:Nat} (hk:k<l.length) (hj:j≤(l.getD k Pg0).frm.length):(qh_ l k j).length≤3000:=by
 have h1:=lv_ h hk
 have h2:=agy_ (ag9_ h) (k:=k) (by rw[k6_];omega)
 have h3:=gj_ k ((a1_ (l.getD k Pg0).text).getD []) (l.getD k Pg0).frm j
 unfold qh_
 rw[T2_,aa2_ h k (by omega)]
 omega
theorem snE {l:List Pg} {k:Nat} (hk:k≤l.length) (h:0<k→bq_ l=true) (h2:(decide ((k:Int)<l.length)&&bq_ l)=false):gb_ l k=a9_ l:=by
 unfold a9_
 cases hb:bq_ l with
 |true=>
  rw[hb]at h2
  simp at h2
  rw[if_pos rfl,show k=l.length by omega]
 |false=>
  rw[hb]at h
  obtain rfl:k=0:=by rcases Nat.eq_zero_or_pos k with q|q;exact q;exact absurd (h q) (by decide)
  rfl
attribute [local go_sem] bl_ a6_ cn_ ao_ as_ hs_ ft_ cg_ b9_ in
theorem l1_ (l:List Pg) (hs:∀p∈l,pgB p) (hl:l.length≤2000000):ACall En 64 [.sl false (pgR l)] [] [.sl false (sgR (a9_ l))] []:=by
 have hB:∀k,k<l.length→pgB (l.getD k Pg0):=fun k h=>hs _ (am_ h)
 refine aa_ [] Tryz.func64 Tryz.ntmps64 fun C=>?_
 refine .seq (.rgo [] ?_ ?_)
 ·(first|trivial|(simp;done)|(simp only[T5_,T3_]at h16;and_intros<;>omega)|(simp only[T5_,T3_]at h16 h35;have q:=lv_ h16.2 (k:=k) (by omega);have q2:=fu_ h16.2 (k:=k) (j:=j) (by omega) (by omega);and_intros<;>first|omega|(simp[a7_];done)|(simp;omega)))
 refine .seq (.rgo [] ?_ ?_)
 ·(first|trivial|(simp;done)|(simp only[T5_,T3_]at h16;and_intros<;>omega)|(simp only[T5_,T3_]at h16 h35;have q:=lv_ h16.2 (k:=k) (by omega);have q2:=fu_ h16.2 (k:=k) (j:=j) (by omega) (by omega);and_intros<;>first|omega|(simp[a7_];done)|(simp;omega)))
 refine .seq (.seq (.rgo [] ?_ ?_))
 ·(first|trivial|(simp;done)|(simp only[T5_,T3_]at h16;and_intros<;>omega)|(simp only[T5_,T3_]at h16 h35;have q:=lv_ h16.2 (k:=k) (by omega);have q2:=fu_ h16.2 (k:=k) (j:=j) (by omega) (by omega);and_intros<;>first|omega|(simp[a7_];done)|(simp;omega)))
 refine .block (.loopK (fun k:Nat=>⟨[.sl false (pgR l),.no,.no,.ow 80 4 0 (gb_ l k).length,.i .i64 k,.no,.no,.no,.no,.no,.no,.no,.no,.no,.no,.no,.no,.no,.no,.no,.no,.no,.no,.no,.no,.no,.no,.no,.no,.no,.no,.no,.no,.no,.no,.no,.no,.no,.no,.no,.no,.no,.no,.no,.no,.no,.no,.no,.no,.no,.no,.no,.no,.no,.no,.no,.no,.no,.no,.no,.no,.no,.no,.no,.no,.no,.no,.no,.no],ak_ [(80,⟨138,4,sgR (gb_ l k)⟩)],us [80]⟩) (fun k:Nat=>k≤l.length∧(0<k→bq_ l=true)) (fun k:Nat=>l.length - k) (0) ?_ ?_ (fun k hI=>?_))
 ·exact⟨by simp,fun h=>by omega⟩
 ·refine Can.trans (Can.ownSlot 3 80 138 4 (by simp only[go_sem,seval]<;>rfl) (by simp only[go_sem,seval]) (by simp only[go_sem,seval]<;>rfl)) ?_
  refine Can.wk ?_ ?_
  ·first|trivial|(simp[gb_])
  ·first|trivial|(simp[gb_,sgR])
 refine .seq (.seq (.rgo [ab_ (hl_ l hs hl)] ?_ ?_))
 ·(first|trivial|(simp;done)|(simp only[T5_,T3_]at h16;and_intros<;>omega)|(simp only[T5_,T3_]at h16 h35;have q:=lv_ h16.2 (k:=k) (by omega);have q2:=fu_ h16.2 (k:=k) (j:=j) (by omega) (by omega);and_intros<;>first|omega|(simp[a7_];done)|(simp;omega)))
 refine .cB (fun h16=>?_) (fun h16=>?_)
 ·refine .skip (.seq (.block (.seq (.rgo [a4_ (k<l.length) (fun h=>u0_ (l.getD k Pg0).text (by have:=(hB k h).2.1;omega))] ?_ ?_ (h:=by simp only[go_sem,seval,c9_ (show k<l.length by simp at h16;exact h16.1)];rfl)))))
  ·(first|trivial|(simp;done)|(simp only[T5_,T3_]at h16;and_intros<;>omega)|(simp only[T5_,T3_]at h16 h35;have q:=lv_ h16.2 (k:=k) (by omega);have q2:=fu_ h16.2 (k:=k) (j:=j) (by omega) (by omega);and_intros<;>first|omega|(simp[a7_];done)|(simp;omega)))
  refine .seq (.rgo [] ?_ ?_)
  ·(first|trivial|(simp;done)|(simp only[T5_,T3_]at h16;and_intros<;>omega)|(simp only[T5_,T3_]at h16 h35;have q:=lv_ h16.2 (k:=k) (by omega);have q2:=fu_ h16.2 (k:=k) (j:=j) (by omega) (by omega);and_intros<;>first|omega|(simp[a7_];done)|(simp;omega)))
  refine .block (.loopK (fun j:Nat=>⟨[.sl false (pgR l),.no,.no,.ow 80 4 0 (qh_ l k j).length,.i .i64 k,.sl false (tkR ((a1_ (l.getD k Pg0).text).getD [])),.no,.i .i64 j,.no,.no,.no,.no,.no,.no,.no,.no,.no,.no,.no,.no,.no,.no,.no,.no,.no,.no,.no,.no,.no,.no,.no,.no,.no,.no,.no,.no,.no,.no,.no,.no,.no,.no,.no,.no,.no,.no,.no,.no,.no,.no,.no,.no,.no,.no,.no,.no,.no,.no,.no,.no,.no,.no,.no,.no,.no,.no,.no,.no,.no],ak_ [(80,⟨138,4,sgR (qh_ l k j)⟩)],us [80]⟩) (fun j:Nat=>k≤l.length∧(0<k→bq_ l=true)∧j≤(l.getD k Pg0).frm.length) (fun j:Nat=>(l.getD k Pg0).frm.length - j) (0) ?_ ?_ (fun j hI=>?_))
  ·exact⟨hI.1,hI.2,Nat.zero_le _⟩
  ·refine Can.wk ?_ ?_
   ·first|trivial|(simp[xg_])
   ·first|trivial|(simp[xg_])
  refine .seq (.seq (.rgo [] ?_ ?_ (h:=by simp only[go_sem,seval,c9_ (show k<l.length by simp at h16;exact h16.1)];rfl)))
  ·(first|trivial|(simp;done)|(simp only[T5_,T3_]at h16;and_intros<;>omega)|(simp only[T5_,T3_]at h16 h35;have q:=lv_ h16.2 (k:=k) (by omega);have q2:=fu_ h16.2 (k:=k) (j:=j) (by omega) (by omega);and_intros<;>first|omega|(simp[a7_];done)|(simp;omega)))
  refine .cB (fun h35=>?_) (fun h35=>?_)
  ·refine .skip (.seqJ (fun u:Unit=>⟨[.sl false (pgR l),.no,.no,.ow 80 4 0 (qh_ l k (j+1)).length,.i .i64 k,.sl false (tkR ((a1_ (l.getD k Pg0).text).getD [])),.no,.i .i64 j,.no,.no,.no,.no,.no,.no,.no,.no,.no,.no,.no,.no,.no,.no,.no,.no,.no,.no,.no,.no,.no,.no,.no,.no,.no,.no,.no,.no,.no,.no,.no,.no,.no,.no,.no,.no,.no,.no,.no,.no,.no,.no,.no,.no,.no,.no,.no,.no,.no,.no,.no,.no,.no,.no,.no,.no,.no,.no,.no,.no,.no],ak_ [(80,⟨138,4,sgR (qh_ l k (j+1))⟩)],us [80]⟩) (fun u:Unit=>True) ?_ (fun u hJ=>?_))
   ·refine .block (.seq (.rgo [] ?_ ?_ (h:=by simp only[go_sem,seval,c9_ (show k<l.length by simp at h16;exact h16.1),c8_ (show j<(l.getD k Pg0).frm.length by simpa using h35)];rfl)))
    ·(first|trivial|(simp;done)|(simp only[T5_,T3_]at h16;and_intros<;>omega)|(simp only[T5_,T3_]at h16 h35;have q:=lv_ h16.2 (k:=k) (by omega);have q2:=fu_ h16.2 (k:=k) (j:=j) (by omega) (by omega);and_intros<;>first|omega|(simp[a7_];done)|(simp;omega)))
    refine .cB (fun h46=>?_) (fun h46=>?_)
    ·refine .rgDo [] ?_ ?_ (h:=by simp only[go_sem,seval,c9_ (show k<l.length by simp at h16;exact h16.1),c8_ (show j<(l.getD k Pg0).frm.length by simpa using h35),s5_ (show j<((a1_ (l.getD k Pg0).text).getD []).length by(simp only[T5_,T3_]at h16 h35;have:=(lv_ h16.2 (k:=k) (by omega)).1;omega))];rfl)
     ·(first|trivial|(simp;done)|(simp only[T5_,T3_]at h16;and_intros<;>omega)|(simp only[T5_,T3_]at h16 h35;have q:=lv_ h16.2 (k:=k) (by omega);have q2:=fu_ h16.2 (k:=k) (j:=j) (by omega) (by omega);and_intros<;>first|omega|(simp[a7_];done)|(simp;omega)))
     refine Exists.intro (()) ⟨?_,?_⟩
     ·trivial
     refine Can.trans (Can.sX 77 80) ?_
     refine Can.wk ?_ ?_
     ·first|trivial|(simp only[T5_,T3_]at h16 h35;first|(rw[h0_ h16.2 (by omega) (by omega),if_pos (by simpa using h46)];simp;done)|(rw[h0_ h16.2 (by omega) (by omega),if_neg (by simpa using h46)];simp;done))
     ·first|trivial|(simp only[T5_,T3_]at h16 h35;first|(rw[h0_ h16.2 (by omega) (by omega),if_pos (by simpa using h46)];simp[sgR,sgC,T0k];done)|(rw[h0_ h16.2 (by omega) (by omega),if_neg (by simpa using h46)];simp;done))
    ·refine .skip ?_
     refine Exists.intro (()) ⟨?_,?_⟩
     ·trivial
     refine Can.wk ?_ ?_
     ·first|trivial|(simp only[T5_,T3_]at h16 h35;first|(rw[h0_ h16.2 (by omega) (by omega),if_pos (by simpa using h46)];simp;done)|(rw[h0_ h16.2 (by omega) (by omega),if_neg (by simpa using h46)];simp;done))
     ·first|trivial|(simp only[T5_,T3_]at h16 h35;first|(rw[h0_ h16.2 (by omega) (by omega),if_pos (by simpa using h46)];simp[sgR,sgC,T0k];done)|(rw[h0_ h16.2 (by omega) (by omega),if_neg (by simpa using h46)];simp;done))
   refine .rgo [] ?_ ?_
   ·(first|trivial|(simp;done)|(simp only[T5_,T3_]at h16;and_intros<;>omega)|(simp only[T5_,T3_]at h16 h35;have q:=lv_ h16.2 (k:=k) (by omega);have q2:=fu_ h16.2 (k:=k) (j:=j) (by omega) (by omega);and_intros<;>first|omega|(simp[a7_];done)|(simp;omega)))
   refine Exists.intro (j+1) ⟨?_,?_,?_⟩
   ·simp only[T3_]at h35;exact⟨hI.1,hI.2.1,by omega⟩
   ·simp only[T3_]at h35;omega
   refine Can.wh ?_;first|trivial|(simp only[T5_,T3_]at h16 h35;have:=lv_ h16.2 (k:=k) (by omega);rw[aj_ (by omega) (by omega)];(try simp))
  ·refine .exit (.rgo [] ?_ ?_)
   ·(first|trivial|(simp;done)|(simp only[T5_,T3_]at h16;and_intros<;>omega)|(simp only[T5_,T3_]at h16 h35;have q:=lv_ h16.2 (k:=k) (by omega);have q2:=fu_ h16.2 (k:=k) (j:=j) (by omega) (by omega);and_intros<;>first|omega|(simp[a7_];done)|(simp;omega)))
   refine Exists.intro (k+1) ⟨?_,?_,?_⟩
   ·simp at h16;exact⟨by omega,fun _=>h16.2⟩
   ·simp at h16;omega
   refine Can.wk ?_ ?_
   ·first|trivial|(simp only[T5_,T3_,T4_]at h16 h35;rw[aj_ (by omega) (by omega),acg_ h16.2 (by omega) (j:=j) (by omega)];(try simp))
   ·first|trivial|(simp only[T5_,T3_,T4_]at h16 h35;rw[acg_ h16.2 (by omega) (j:=j) (by omega)])
 ·refine .exit (.seq (.rgo [] ?_ ?_))
  ·(first|trivial|(simp;done)|(simp only[T5_,T3_]at h16;and_intros<;>omega)|(simp only[T5_,T3_]at h16 h35;have q:=lv_ h16.2 (k:=k) (by omega);have q2:=fu_ h16.2 (k:=k) (j:=j) (by omega) (by omega);and_intros<;>first|omega|(simp[a7_];done)|(simp;omega)))
  refine .fX 80 ?_
  refine .ret ⟨.inr rfl,?_⟩
  exact Out.pl (by simp only[Tryz.results64];rfl) (by simp only[ag_,go_sem,seval]<;>(rw[snE hI.1 hI.2 h16,T1_ (by rw[b9_];exact Nat.le_refl _)]))
end
section
set_option maxRecDepth 100000
set_option maxHeartbeats 4000000
theorem vu_ {l:List Pg} {i:Nat} {a t:Str} {g:Bool} {f:List Int}:(pgR l).set i [.s a,.b g,.s t,.sl false (inR f)]=pgR (l.set i ⟨a,g,t,f⟩):=by simp[pgR,List.map_set,pgC]
end
section
set_option maxRecDepth 100000
set_option maxHeartbeats 4000000
theorem aut_ (s:Str):(tOk s&&((spl s).length:Int)==1)=ez_ s:=by
 have h:=xb_ s
 have hn:=aa5_ s
 have h1:0<(spl s).length:=List.length_pos_iff.2 hn
 rw[←Bool.not_inj_iff,←h,Bool.not_and]
 congr 1
 rw[Bool.eq_iff_iff]
 simp only[Bool.not_eq_true',beq_eq_false_iff_ne,T3_]
 omega
theorem afv_ (l:List Pg) (n:Nat):(pgR l).take n=pgR (l.take n):=by simp[pgR,List.map_take]
theorem af1_ (l:List Pg) (n:Nat):(pgR l).drop n=pgR (l.drop n):=by simp[pgR,List.map_drop]
theorem as6_ {l:List Pg} {k:Nat} (h:k<l.length):pgR (l.take (k+1))=pgR (l.take k)++[pgC (l.getD k Pg0)]:=by
 rw[List.take_add_one,T6_ h,T8_,T6_ h];unfold pgR;rw[List.map_append];rfl
theorem z2_ (l:List Pg):(pgR l).take l.length=pgR l:=T1_ (by rw[bl_];exact Nat.le_refl _)
theorem ahf_ (l:List Pg) (n:Nat):((pgR l).getD n []).drop 4=[]:=by
 rcases Nat.lt_or_ge n l.length with h|h
 ·rw[c9_ h];rfl
 ·rw[T8_,List.getElem?_eq_none (by rw[bl_];exact h)];rfl
theorem zy_ (l:List Pg) (p:Pg):pgR l++[[.s p.line,.b p.good,.s p.text,.sl false (inR p.frm)]]=pgR (l++[p]):=by simp[pgR,pgC]
theorem age_ (a b:List Pg):pgR a++pgR b=pgR (a++b):=by simp[pgR]
theorem gz_ (l:List Pg):∀r∈pgR l,r.length=4:=fun r hr=>by obtain⟨p,_,rfl⟩:=List.mem_map.1 hr;rfl
theorem ay1_ {L:List Pg} {f:List Int} {a t:Str} {g:Bool}:ij_ 33 1 (inR f) (pgR L++[[.s a,.b g,.s t,.ow 33 1 0 f.length]])=pgR (L++[⟨a,g,t,f⟩]):=by
 have h:∀A B:List (List V),ij_ 33 1 (inR f) (A++B)=ij_ 33 1 (inR f) A++ij_ 33 1 (inR f) B:=by
  intro A B
  induction A with
  |nil=>rfl
  |cons x A ih=>simp only[List.cons_append,ij_,ih]
 rw[h,kr_ _ (a6_ L),←zy_]
 congr 1
 simp[ij_,er_,frz,as_,T1_]
theorem sc_ (l:List Pg) (a:Int) (w:Str):bc_ l a 1 [w]=!(!bq_ l||decide (a<0)||decide (a ≥ (l.length:Int))||!ez_ w):=by
 rw[Bool.eq_iff_iff,ju_]
 simp only[Bool.not_eq_true',Bool.or_eq_false_iff,Bool.not_eq_false',T4_]
 exact⟨fun⟨h1,h2,h3,h4⟩=>⟨⟨⟨h1,by omega⟩,by omega⟩,h4⟩,fun⟨⟨⟨h1,h2⟩,h3⟩,h4⟩=>⟨h1,by omega,by omega,h4⟩⟩
theorem in_b (l:List Pg) (a:Int) (w:Str):bc_ l a 0 [w]=!(!bq_ l||decide (a<0)||decide (a > (l.length:Int))||!ez_ w||decide ((l.length:Int) ≥ 16)):=by
 rw[Bool.eq_iff_iff,qu_]
 simp only[Bool.not_eq_true',Bool.or_eq_false_iff,Bool.not_eq_false',T4_]
 exact⟨fun⟨h1,h2,h3,h4,h5⟩=>⟨⟨⟨⟨h1,by omega⟩,by omega⟩,h4⟩,by omega⟩,fun⟨⟨⟨⟨h1,h2⟩,h3⟩,h4⟩,h5⟩=>⟨h1,by omega,by omega,h4,by omega⟩⟩
theorem uw_ (l:List Pg) (a:Int):bc_ l a 1 []=!(!bq_ l||decide (a<0)||decide (a ≥ (l.length:Int))||decide ((l.length:Int)<2)):=by
 rw[Bool.eq_iff_iff,mk_]
 simp only[Bool.not_eq_true',Bool.or_eq_false_iff,Bool.not_eq_false',T4_]
 exact⟨fun⟨h1,h2,h3,h4⟩=>⟨⟨⟨h1,by omega⟩,by omega⟩,by omega⟩,fun⟨⟨⟨h1,h2⟩,h3⟩,h4⟩=>⟨h1,by omega,by omega,by omega⟩⟩
attribute [local go_sem] al_ aq_ in
theorem y3_ (s:Str) (hs:s.length≤281474976710656):ACall En 113 [.s s] [] [.b (ez_ s)] []:=by
 refine aa_ [] Tryz.func113 Tryz.ntmps113 fun C=>?_
 refine .seq (.rg [] ?_)
 refine .seq (.rg [ab_ (mr_ s hs),a4_ (tOk s=true) (fun h=>or_ s (mg_ h))] ?_)
 refine .ret ⟨.inr rfl,?_⟩
 exact Out.pl (by simp only[Tryz.results113];rfl) (by simp only[ag_,go_sem,seval]<;>(rw[aut_]))
attribute [local go_sem] at_ bm_ bl_ a6_ cn_ ao_ as_ ay1_ in
theorem i2_ (l:List Pg) (hs:∀p∈l,pgB p) (hl:l.length≤2000000):ACall En 114 [.sl false (pgR l)] [] [.ow 0 4 0 l.length] [⟨67,4,pgR l⟩]:=by
 have hc:∀l:List Pg,clr 200 (pgR l)=true:=fun l=>kk_ _ _ (a6_ l)
 have hi:∀l:List Int,clr 200 (inR l)=true:=fun l=>kk_ _ _ (ao_ l)
 have hi2:∀l:List Int,(inR l).take l.length=inR l:=fun l=>T1_ (by rw[as_];exact Nat.le_refl _)
 have hr:∀l:List Pg,rnr (swL 38 80) (pgR l)=pgR l:=fun l=>be_ _ _ (a6_ l)
 refine aa_ [80] Tryz.func114 Tryz.ntmps114 fun C=>?_
 refine .seq (.rgo [] ?_ ?_ (h:=by simp only[go_sem,seval,hc,hi,hi2,hr];rfl))
 ·(first|trivial|(simp;done)|(simp only[T3_]at h10;have q:=(hs _ (am_ (d:=Pg0) (show k<l.length by omega))).2.2;and_intros<;>first|omega|(simp;done)|(simp;omega)|(intro r hr;obtain⟨x,_,rfl⟩:=List.mem_map.1 hr;rfl)))
 refine .seq (.rgo [] ?_ ?_ (h:=by simp only[go_sem,seval,hc,hi,hi2,hr];rfl))
 ·(first|trivial|(simp;done)|(simp only[T3_]at h10;have q:=(hs _ (am_ (d:=Pg0) (show k<l.length by omega))).2.2;and_intros<;>first|omega|(simp;done)|(simp;omega)|(intro r hr;obtain⟨x,_,rfl⟩:=List.mem_map.1 hr;rfl)))
 refine .seq (.seq (.rgo [] ?_ ?_ (h:=by simp only[go_sem,seval,hc,hi,hi2,hr];rfl)))
 ·(first|trivial|(simp;done)|(simp only[T3_]at h10;have q:=(hs _ (am_ (d:=Pg0) (show k<l.length by omega))).2.2;and_intros<;>first|omega|(simp;done)|(simp;omega)|(intro r hr;obtain⟨x,_,rfl⟩:=List.mem_map.1 hr;rfl)))
 refine .block (.loopK (fun k:Nat=>⟨[.sl false (pgR l),.no,.no,.ow 80 4 0 k,.i .i64 k,.no,.no,.no,.no,.no,.no,.no,.no,.no,.no,.no,.no,.no,.no,.no,.no,.no,.no,.no,.no,.no,.no,.no,.no,.no],ak_ [(80,⟨67,4,pgR (l.take k)⟩)],us [80]⟩) (fun k:Nat=>k≤l.length) (fun k:Nat=>l.length - k) (0) ?_ ?_ (fun k hI=>?_))
 ·simp
 ·refine Can.trans (Can.ownSlot 3 80 67 4 (by simp only[go_sem,seval,hc,hi,hi2,hr]<;>rfl) (by simp only[go_sem,seval,hc,hi,hi2,hr]) (by simp only[go_sem,seval,hc,hi,hi2,hr]<;>rfl)) ?_
  exact Can.wl (h:=by simp only[go_sem,seval,hc,hi,hi2,hr,ae_,leV,ac_,ad_,V.inn,us,T9_,Ta_]<;>((try simp))) (hi:=by simp only[go_sem,seval,hc,hi,hi2,hr,ae_,leV,ac_,ad_,V.inn,us,T9_,Ta_]) (hL:=by simp only[go_sem,seval,hc,hi,hi2,hr,ae_,leV,ac_,ad_,V.inn,us,T9_,Ta_]<;>((try simp[pgR])))
 refine .seq (.seq (.rgo [] ?_ ?_ (h:=by simp only[go_sem,seval,hc,hi,hi2,hr];rfl)))
 ·(first|trivial|(simp;done)|(simp only[T3_]at h10;have q:=(hs _ (am_ (d:=Pg0) (show k<l.length by omega))).2.2;and_intros<;>first|omega|(simp;done)|(simp;omega)|(intro r hr;obtain⟨x,_,rfl⟩:=List.mem_map.1 hr;rfl)))
 refine .cB (fun h10=>?_) (fun h10=>?_) (hc:=by simp only[go_sem,seval,hc,hi,hi2,hr];rfl) (hp:=by simp only[go_sem,seval,hc,hi,hi2,hr])
 ·refine .skip (.seq (.block (.seq (.rgo [] ?_ ?_ (h:=by simp only[go_sem,seval,hc,hi,hi2,hr,c9_ (show k<l.length by simpa using h10)];rfl)))))
  ·(first|trivial|(simp;done)|(simp only[T3_]at h10;have q:=(hs _ (am_ (d:=Pg0) (show k<l.length by omega))).2.2;and_intros<;>first|omega|(simp;done)|(simp;omega)|(intro r hr;obtain⟨x,_,rfl⟩:=List.mem_map.1 hr;rfl)))
  refine .seq (.rgo [] ?_ ?_ (h:=by simp only[go_sem,seval,hc,hi,hi2,hr,c9_ (show k<l.length by simpa using h10)];rfl))
  ·(first|trivial|(simp;done)|(simp only[T3_]at h10;have q:=(hs _ (am_ (d:=Pg0) (show k<l.length by omega))).2.2;and_intros<;>first|omega|(simp;done)|(simp;omega)|(intro r hr;obtain⟨x,_,rfl⟩:=List.mem_map.1 hr;rfl)))
  refine .rgo [] ?_ ?_ (h:=by simp only[go_sem,seval,hc,hi,hi2,hr];rfl)
  ·(first|trivial|(simp;done)|(simp only[T3_]at h10;have q:=(hs _ (am_ (d:=Pg0) (show k<l.length by omega))).2.2;and_intros<;>first|omega|(simp;done)|(simp;omega)|(intro r hr;obtain⟨x,_,rfl⟩:=List.mem_map.1 hr;rfl)))
  refine .rgo [] ?_ ?_ (h:=by simp only[go_sem,seval,hc,hi,hi2,hr];rfl)
  ·(first|trivial|(simp;done)|(simp only[T3_]at h10;have q:=(hs _ (am_ (d:=Pg0) (show k<l.length by omega))).2.2;and_intros<;>first|omega|(simp;done)|(simp;omega)|(intro r hr;obtain⟨x,_,rfl⟩:=List.mem_map.1 hr;rfl)))
  refine Exists.intro (k+1) ⟨?_,?_,?_⟩
  ·simp at h10;omega
  ·simp at h10;omega
  refine Can.trans (Can.frz 33 (by simp only[go_sem,seval,hc,hi,hi2,hr]<;>rfl) (by simp only[go_sem,seval,hc,hi,hi2,hr]) (by simp only[go_sem,seval,hc,hi,hi2,hr]<;>rfl) (by simp only[go_sem,seval,hc,hi,hi2,hr]<;>rfl)) ?_
  refine Can.trans (Can.swap 38 80 (by decide) (by decide) (by decide) (by decide) (by simp only[go_sem,seval,hc,hi,hi2,hr,V.cl]) (by simp only[go_sem,seval,hc,hi,hi2,hr,V.cl]) (by simp only[go_sem,seval,hc,hi,hi2,hr,ah_,sw,swM,rnB]<;>rfl) (by simp only[go_sem,seval,hc,hi,hi2,hr,ah_,sw,swM,rnB]<;>rfl) (by simp only[go_sem,seval,hc,hi,hi2,hr,ah_,sw,swM,rnB]<;>rfl)) ?_
  exact Can.wl (h:=by simp only[go_sem,seval,hc,hi,hi2,hr,ae_,leV,ac_,ad_,V.inn,us,T9_,Ta_]<;>(rw[aj_ (by simp at h10;omega) (by simp at h10;omega)];(try simp))) (hi:=by simp only[go_sem,seval,hc,hi,hi2,hr,ae_,leV,ac_,ad_,V.inn,us,T9_,Ta_]) (hL:=by simp only[go_sem,seval,hc,hi,hi2,hr,ae_,leV,ac_,ad_,V.inn,us,T9_,Ta_]<;>(simp only[T3_]at h10;rw[as6_ (by omega)];simp[pgR]))
 ·refine .exit (.seq (.rgo [] ?_ ?_ (h:=by simp only[go_sem,seval,hc,hi,hi2,hr];rfl)))
  ·(first|trivial|(simp;done)|(simp only[T3_]at h10;have q:=(hs _ (am_ (d:=Pg0) (show k<l.length by omega))).2.2;and_intros<;>first|omega|(simp;done)|(simp;omega)|(intro r hr;obtain⟨x,_,rfl⟩:=List.mem_map.1 hr;rfl)))
  refine .ret ⟨.inr rfl,?_⟩
  exact Out.mm (by simp only[Tryz.results114];rfl) (by simp only[ag_,rns,rn,go_sem,seval,hc,hi,hi2,hr]<;>(simp only[T4_]at h10;rw[show k=l.length by omega])) (by simp only[at_,go_sem,seval,hc,hi,hi2,hr]<;>(simp only[T4_]at h10;rw[T1_ (show l.length≤k by omega)])) (h1:=by simp only[a8_,b4_,go_sem,seval,hc,hi,hi2,hr]) (h6:=by simp only[go_sem,seval,hc,hi,hi2,hr]) (h7:=by simp only[bm_,go_sem,seval,hc,hi,hi2,hr])
theorem chJ {n:Nat} {x v:List Pg} (hn:n=x.length) (h:x=v):leV (peel (if n≤x.length then V.sl false (pgR (x.take n))else V.no)) (V.sl false (pgR v)):=by
 subst hn h
 rw[if_pos (Nat.le_refl _),List.take_length]
 exact⟨fun h=>h,af_ _⟩
attribute [local go_sem] at_ bm_ bl_ a6_ cn_ ao_ z2_ afv_ af1_ ahf_ zy_ age_ vu_ Int.toNat_natCast List.take_length in
theorem ady_ (l:List Pg) (a:Int) (w:Str) (hs:∀p∈l,pgB p) (hl:l.length≤2000000) (ha : -9223372036854775808≤a) (ha2:a<9223372036854775808) (hw:w.length≤2000000):ACall En 58 [.sl false (pgR l),.i .i64 a,.s w] [] [.sl false (pgR (chg l a 1 [w])),.b (bc_ l a 1 [w])] []:=by
 refine aa_ [] Tryz.func58 Tryz.ntmps58 fun C=>?_
 refine .seq (.rgo [] ?_ ?_)
 ·(first|trivial|(simp;done)|(obtain⟨q1,q2,q3,q4⟩:=ju_.1 (show bc_ l a 1 [w]=true by rw[sc_,h26];rfl);and_intros<;>omega))
 refine .seq (.seq (.rgo [ab_ (hl_ l hs (by omega)),ab_ (y3_ w (by omega))] ?_ ?_))
 ·(first|trivial|(simp;done)|(obtain⟨q1,q2,q3,q4⟩:=ju_.1 (show bc_ l a 1 [w]=true by rw[sc_,h26];rfl);and_intros<;>omega))
 refine .cB (fun h26=>?_) (fun h26=>?_)
 ·refine .seq (.rgo [] ?_ ?_)
  ·(first|trivial|(simp;done)|(obtain⟨q1,q2,q3,q4⟩:=ju_.1 (show bc_ l a 1 [w]=true by rw[sc_,h26];rfl);and_intros<;>omega))
  refine .ret ⟨.inr rfl,?_⟩
  exact Out.plL (by simp only[Tryz.results58];rfl) (by simp only[ag_,go_sem,seval]<;>(have e:bc_ l a 1 [w]=false:=(by rw[sc_,h26];rfl);rw[z7_ e,e];exact⟨af_ _,rfl⟩))
 ·refine .skip (.seq (.rgo [bf_ [] [39] (i2_ l hs hl)] ?_ ?_))
  ·(first|trivial|(simp;done)|(obtain⟨q1,q2,q3,q4⟩:=ju_.1 (show bc_ l a 1 [w]=true by rw[sc_,h26];rfl);and_intros<;>omega))
  refine .seq (.rgo [ab_ (m0_ w (by omega))] ?_ ?_)
  ·(first|trivial|(simp;done)|(obtain⟨q1,q2,q3,q4⟩:=ju_.1 (show bc_ l a 1 [w]=true by rw[sc_,h26];rfl);and_intros<;>omega))
  refine .seq (.rgo [] ?_ ?_)
  ·(first|trivial|(simp;done)|(obtain⟨q1,q2,q3,q4⟩:=ju_.1 (show bc_ l a 1 [w]=true by rw[sc_,h26];rfl);and_intros<;>omega))
  refine .fX 39 ?_
  refine .ret ⟨.inr rfl,?_⟩
  exact Out.plL (by simp only[Tryz.results58];rfl) (by simp only[ag_,go_sem,seval]<;>(have e:bc_ l a 1 [w]=true:=(by rw[sc_,h26];rfl);exact⟨chJ (by simp) (atm_ e).symm,e.symm⟩))
attribute [local go_sem] at_ bm_ bl_ a6_ cn_ ao_ z2_ afv_ af1_ ahf_ zy_ age_ vu_ Int.toNat_natCast List.take_length in
theorem vv_ (l:List Pg) (a:Int) (w:Str) (hs:∀p∈l,pgB p) (hl:l.length≤2000000) (ha : -9223372036854775808≤a) (ha2:a<9223372036854775808) (hw:w.length≤2000000):ACall En 56 [.sl false (pgR l),.i .i64 a,.s w] [] [.sl false (pgR (chg l a 0 [w])),.b (bc_ l a 0 [w])] []:=by
 have hB1:∀p∈l.take a.toNat,pgB p:=fun p hp=>hs p (List.mem_of_mem_take hp)
 have hB2:∀p∈l.drop a.toNat,pgB p:=fun p hp=>hs p (List.mem_of_mem_drop hp)
 refine aa_ [] Tryz.func56 Tryz.ntmps56 fun C=>?_
 refine .seq (.rgo [] ?_ ?_)
 ·(first|trivial|(simp;done)|(obtain⟨q1,q2,q3,q4,q5⟩:=qu_.1 (show bc_ l a 0 [w]=true by rw[in_b,h31];rfl);and_intros<;>first|omega|(simp;done)|exact fun h=>absurd rfl h|exact .inr (gz_ l)|exact gz_ _|(simp only[List.length_take,List.length_drop];omega)))
 refine .seq (.seq (.rgo [ab_ (hl_ l hs (by omega)),ab_ (y3_ w (by omega))] ?_ ?_))
 ·(first|trivial|(simp;done)|(obtain⟨q1,q2,q3,q4,q5⟩:=qu_.1 (show bc_ l a 0 [w]=true by rw[in_b,h31];rfl);and_intros<;>first|omega|(simp;done)|exact fun h=>absurd rfl h|exact .inr (gz_ l)|exact gz_ _|(simp only[List.length_take,List.length_drop];omega)))
 refine .cB (fun h31=>?_) (fun h31=>?_)
 ·refine .seq (.rgo [] ?_ ?_)
  ·(first|trivial|(simp;done)|(obtain⟨q1,q2,q3,q4,q5⟩:=qu_.1 (show bc_ l a 0 [w]=true by rw[in_b,h31];rfl);and_intros<;>first|omega|(simp;done)|exact fun h=>absurd rfl h|exact .inr (gz_ l)|exact gz_ _|(simp only[List.length_take,List.length_drop];omega)))
  refine .ret ⟨.inr rfl,?_⟩
  exact Out.plL (by simp only[Tryz.results56];rfl) (by simp only[ag_,go_sem,seval]<;>(have e:bc_ l a 0 [w]=false:=(by rw[in_b,h31];rfl);rw[z7_ e,e];exact⟨af_ _,rfl⟩))
 ·refine .skip (.seq (.rgo [bf_ [] [46] (i2_ (l.take a.toNat) hB1 (by simp;omega)),ab_ (m0_ w (by omega))] ?_ ?_))
  ·(first|trivial|(simp;done)|(obtain⟨q1,q2,q3,q4,q5⟩:=qu_.1 (show bc_ l a 0 [w]=true by rw[in_b,h31];rfl);and_intros<;>first|omega|(simp;done)|exact fun h=>absurd rfl h|exact .inr (gz_ l)|exact gz_ _|(simp only[List.length_take,List.length_drop];omega)))
  refine .seq (.rgo [bf_ [] [55] (i2_ (l.drop a.toNat) hB2 (by simp;omega))] ?_ ?_)
  ·(first|trivial|(simp;done)|(obtain⟨q1,q2,q3,q4,q5⟩:=qu_.1 (show bc_ l a 0 [w]=true by rw[in_b,h31];rfl);and_intros<;>first|omega|(simp;done)|exact fun h=>absurd rfl h|exact .inr (gz_ l)|exact gz_ _|(simp only[List.length_take,List.length_drop];omega)))
  refine .fX 56 ?_
  refine .ret ⟨.inr rfl,?_⟩
  exact Out.plL (by simp only[Tryz.results56];rfl) (by simp only[ag_,go_sem,seval]<;>(have e:bc_ l a 0 [w]=true:=(by rw[in_b,h31];rfl);exact⟨chJ (by simp only[T2_,List.length_singleton]) (by rw[a0g_ e];simp),e.symm⟩))
attribute [local go_sem] at_ bm_ bl_ a6_ cn_ ao_ z2_ afv_ af1_ ahf_ zy_ age_ vu_ Int.toNat_natCast List.take_length in
theorem adk_ (l:List Pg) (a:Int) (hs:∀p∈l,pgB p) (hl:l.length≤2000000) (ha : -9223372036854775808≤a) (ha2:a<9223372036854775808):ACall En 59 [.sl false (pgR l),.i .i64 a] [] [.sl false (pgR (chg l a 1 [])),.b (bc_ l a 1 [])] []:=by
 have hB1:∀p∈l.take a.toNat,pgB p:=fun p hp=>hs p (List.mem_of_mem_take hp)
 have hB2:∀p∈l.drop (a.toNat+1),pgB p:=fun p hp=>hs p (List.mem_of_mem_drop hp)
 have hw:bc_ l a 1 []=true→IntKind.i64.wrap (a+1)=a+1:=fun h=>by obtain⟨q1,q2,q3,q4⟩:=mk_.1 h;rw[aj_ (by omega) (by omega)]
 refine aa_ [] Tryz.func59 Tryz.ntmps59 fun C=>?_
 refine .seq (.rgo [] ?_ ?_)
 ·(first|trivial|(simp;done)|(obtain⟨q1,q2,q3,q4⟩:=mk_.1 (show bc_ l a 1 []=true by rw[uw_,h23];rfl);have q5:(a+1).toNat=a.toNat+1:=(by omega);and_intros<;>first|omega|(simp;done)|exact fun h=>absurd rfl h|exact .inr (gz_ l)|exact gz_ _|(rw[q5];exact af_ _)|(simp only[List.length_take,List.length_drop];omega)))
 refine .seq (.seq (.rgo [ab_ (hl_ l hs (by omega))] ?_ ?_))
 ·(first|trivial|(simp;done)|(obtain⟨q1,q2,q3,q4⟩:=mk_.1 (show bc_ l a 1 []=true by rw[uw_,h23];rfl);have q5:(a+1).toNat=a.toNat+1:=(by omega);and_intros<;>first|omega|(simp;done)|exact fun h=>absurd rfl h|exact .inr (gz_ l)|exact gz_ _|(rw[q5];exact af_ _)|(simp only[List.length_take,List.length_drop];omega)))
 refine .cB (fun h23=>?_) (fun h23=>?_)
 ·refine .seq (.rgo [] ?_ ?_)
  ·(first|trivial|(simp;done)|(obtain⟨q1,q2,q3,q4⟩:=mk_.1 (show bc_ l a 1 []=true by rw[uw_,h23];rfl);have q5:(a+1).toNat=a.toNat+1:=(by omega);and_intros<;>first|omega|(simp;done)|exact fun h=>absurd rfl h|exact .inr (gz_ l)|exact gz_ _|(rw[q5];exact af_ _)|(simp only[List.length_take,List.length_drop];omega)))
  refine .ret ⟨.inr rfl,?_⟩
  exact Out.plL (by simp only[Tryz.results59];rfl) (by simp only[ag_,go_sem,seval]<;>(have e:bc_ l a 1 []=false:=(by rw[uw_,h23];rfl);rw[z7_ e,e];exact⟨af_ _,rfl⟩))
 ·refine .skip (.seq (.rgDo [bf_ [] [38] (i2_ (l.take a.toNat) hB1 (by simp;omega)),bf_ [] [43] (i2_ (l.drop (a.toNat+1)) hB2 (by simp;omega))] ?_ ?_ (h:=by simp only[go_sem,seval,hw (show bc_ l a 1 []=true by rw[uw_,h23];rfl)];rfl)))
  ·(first|trivial|(simp;done)|(obtain⟨q1,q2,q3,q4⟩:=mk_.1 (show bc_ l a 1 []=true by rw[uw_,h23];rfl);have q5:(a+1).toNat=a.toNat+1:=(by omega);and_intros<;>first|omega|(simp;done)|exact fun h=>absurd rfl h|exact .inr (gz_ l)|exact gz_ _|(rw[q5];exact af_ _)|(simp only[List.length_take,List.length_drop];omega)))
  refine .fX 44 ?_
  refine .ret ⟨.inr rfl,?_⟩
  exact Out.plL (by simp only[Tryz.results59];rfl) (by simp only[ag_,go_sem,seval]<;>(have e:bc_ l a 1 []=true:=(by rw[uw_,h23];rfl);exact⟨chJ (by simp only[T2_]) (awx_ e).symm,e.symm⟩))
end
section
set_option maxRecDepth 100000
set_option maxHeartbeats 4000000
def rdl (ls:List Str):List Bl:=ls.map fun w=>(e2_ w).getD B0
theorem bw_ (ls:List Str):(rdl ls).length=ls.length:=by simp[rdl]
theorem aib_ {ls:List Str} {k:Nat} (h:k<ls.length):(rdl ls).getD k B0=(e2_ (ls.getD k [])).getD B0:=by
 simp[rdl,T8_,T6_ h]
theorem am1_ (ls:List Str):allB (rdl ls)=true:=by
 refine List.all_eq_true.2 fun b hb=>?_
 obtain⟨w,_,rfl⟩:=List.mem_map.1 hb
 obtain⟨w1,w2⟩:=mj_ w
 cases h:e2_ w with
 |none=>exact aw1_
 |some b=>
  have:b=ge_ (bg_ w):=by
   by_cases hc:(a1_ w).isSome=true∧bok (ge_ (bg_ w))=true∧btxt (ge_ (bg_ w))=w
   ·rw[vi_ hc.1 hc.2.1 hc.2.2]at h;exact(Option.some.inj h).symm
   ·rw[vz_ hc]at h;cases h
  rw[this];exact ahz_ w1
theorem ado_ {s:Str} {k:Nat} (hk:k<(bt_ s).length) (h:(e2_ ((bt_ s).getD k [])).isSome=false):i7_ s=([],false):=by
 unfold i7_
 rw[if_neg]
 intro q
 have:=List.all_eq_true.1 q _ (am_ (d:=[]) hk)
 rw[h]at this;cases this
theorem za_ {s:Str} (h:(bt_ s).all (fun w=>(e2_ w).isSome)=true):i7_ s=j3_ (rdl (bt_ s)):=by unfold i7_;rw[if_pos h];rfl
theorem aer_ {l:List Bl} {k:Nat} (hk:k<l.length):bLR (l.take (k+1))=bLR (l.take k)++[bC (l.getD k B0)]:=by
 rw[List.take_add_one,T6_ hk,au6_,T8_,T6_ hk];rfl
theorem abs_ {α:Type} {p:α→Bool} {l:List α} {k:Nat} {d:α} (h:k<l.length):(l.take (k+1)).all p=((l.take k).all p&&p (l.getD k d)):=by
 rw[List.take_add_one,T6_ h,List.all_append,T8_,T6_ h];simp
attribute [local go_sem] al_ aq_ jd_ cz_ ao_ in
theorem abl_ (s:Str) (hs:s.length≤281474976710656):ACall En 89 [.s s] [] [.ow 0 1 0 (i7_ s).1.length,.b (i7_ s).2] [⟨3,1,inR (i7_ s).1⟩]:=by
 have hL:=e1_ s
 have hM:=hb_ s
 have hG:=@za_ s
 have hB:=@ado_ s
 generalize hT:bt_ s=ls at *
 refine aa_ [33] Tryz.func89 Tryz.ntmps89 fun C=>?_
 refine .seq (.rgo [] ?_ ?_)
 ·(first|trivial|(simp;done)|(simpa using h13)|(simp at h13;simp[bx_,bw_];omega))
 refine .seq (.rgo [] ?_ ?_)
 ·(first|trivial|(simp;done)|(simpa using h13)|(simp at h13;simp[bx_,bw_];omega))
 refine .seqJ (fun u:Unit=>⟨[.no,.no,.no,.no,.sl false (bLR (rdl ls)),.no,.no,.no,.no,.no,.no,.no,.no,.no,.no,.no,.no,.no,.no,.no,.no,.no,.no,.no,.no,.no,.no,.no,.no,.no,.no,.no],ak_ [],us []⟩) (fun u:Unit=>ls.all (fun w=>(e2_ w).isSome)=true) ?_ (fun u hJ=>?_)
 ·refine .seq (.rgo [ab_ (show ACall En 34 [.s s] [] [.sl false (an_ ls)] []from hT ▸ k3_ s hs)] ?_ ?_)
  ·(first|trivial|(simp;done)|(simpa using h13)|(simp at h13;simp[bx_,bw_];omega))
  refine .block (.loopK (fun k:Nat=>⟨[.no,.no,.no,.no,.ow 20 10 0 k,.no,.no,.no,.no,.no,.sl false (an_ ls),.i .i64 ls.length,.i .i64 k,.no,.no,.no,.no,.no,.no,.no,.no,.no,.no,.no,.no,.no,.no,.no,.no,.no,.no,.no],ak_ [(20,⟨147,10,bLR ((rdl ls).take k)⟩)],us [20]⟩) (fun k:Nat=>k≤ls.length∧(ls.take k).all (fun w=>(e2_ w).isSome)=true) (fun k:Nat=>ls.length - k) (0) ?_ ?_ (fun k hI=>?_))
  ·exact⟨by simp,by simp⟩
  ·refine Can.trans (Can.ownSlot 4 20 147 10 (by simp only[go_sem,seval]<;>rfl) (by simp only[go_sem,seval]) (by simp only[go_sem,seval]<;>rfl)) ?_
   refine Can.wk ?_ ?_
   ·first|trivial|(simp)
   ·first|trivial|(simp[bLR])
  refine .seq (.rgo [] ?_ ?_)
  ·(first|trivial|(simp;done)|(simpa using h13)|(simp at h13;simp[bx_,bw_];omega))
  refine .seq (.cB (fun h13=>?_) (fun h13=>?_))
  ·refine .skip (.seq (.block (.seq (.rgo [] ?_ ?_ (h:=by simp only[go_sem,seval,aw_ (show k<ls.length by simpa using h13)];rfl)))))
   ·(first|trivial|(simp;done)|(simpa using h13)|(simp at h13;simp[bx_,bw_];omega))
   refine .seq (.rgo [a4_ (k<ls.length) (fun h=>aev_ (ls.getD k []) (by have:=hM _ (am_ (d:=[]) h);omega))] ?_ ?_)
   ·(first|trivial|(simp;done)|(simpa using h13)|(simp at h13;simp[bx_,bw_];omega))
   refine .seq (.seq (.rgo [] ?_ ?_))
   ·(first|trivial|(simp;done)|(simpa using h13)|(simp at h13;simp[bx_,bw_];omega))
   refine .cB (fun h22=>?_) (fun h22=>?_)
   ·refine .seq (.rgo [] ?_ ?_)
    ·(first|trivial|(simp;done)|(simpa using h13)|(simp at h13;simp[bx_,bw_];omega))
    refine .can (Can.ownSlot 2 33 3 1 (by simp only[go_sem,seval]<;>rfl) (by simp only[go_sem,seval]) (by simp only[go_sem,seval]<;>rfl)) ?_
    refine .ret ⟨.inr rfl,?_⟩
    exact Out.mm (by simp only[Tryz.results89];rfl) (by simp only[ag_,rns,rn,go_sem,seval]<;>(rw[hB (by simpa using h13) (by simpa using h22)];simp)) (by simp only[at_,go_sem,seval]<;>(rw[hB (by simpa using h13) (by simpa using h22)];simp[inR]))
   ·refine .skip (.rgo [] ?_ ?_)
    ·(first|trivial|(simp;done)|(simpa using h13)|(simp at h13;simp[bx_,bw_];omega))
    refine .rgo [] ?_ ?_
    ·(first|trivial|(simp;done)|(simpa using h13)|(simp at h13;simp[bx_,bw_];omega))
    refine Exists.intro (k+1) ⟨?_,?_,?_⟩
    ·simp at h13;exact⟨by omega,by rw[abs_ (d:=[]) h13,hI.2];simpa using h22⟩
    ·simp at h13;omega
    refine Can.trans (Can.sX 36 20) ?_
    refine Can.wk ?_ ?_
    ·first|trivial|(rw[aj_ (by simp at h13;omega) (by simp at h13;omega)];simp)
    ·first|trivial|(simp at h13;rw[aer_ (by rw[bw_];exact h13),aib_ h13];simp[cz_])
  ·refine .exit ?_
   refine Exists.intro (()) ⟨?_,?_⟩
   ·simp at h13;have h2:=hI.2;rw[T1_ (by omega)]at h2;exact h2
   refine Can.trans (Can.frz 20 (by simp only[go_sem,seval]<;>rfl) (by simp only[go_sem,seval]) (by simp only[go_sem,seval]<;>rfl) (by simp only[go_sem,seval]<;>rfl)) ?_
   refine Can.wh ?_;first|trivial|(simp at h13;(obtain rfl:k=ls.length:=(by omega));simp[T1_,bw_,bx_,leV,af_])
 refine .seq (.rgo [bf_ [] [33] (aem_ (rdl ls) (am1_ ls) (by rw[bw_];omega))] ?_ ?_)
 ·(first|trivial|(simp;done)|(simpa using h13)|(simp at h13;simp[bx_,bw_];omega))
 refine .ret ⟨.inr rfl,?_⟩
 exact Out.mm (by simp only[Tryz.results89];rfl) (by simp only[ag_,rns,rn,go_sem,seval]<;>(rw[hG hJ])) (by simp only[at_,go_sem,seval]<;>(rw[hG hJ];(try simp[be_,ao_])))
theorem afn_ (s:Str) (hs:s.length≤281474976710656):ACall En 89 [.s s] [] [.sl false (inR (i7_ s).1),.b (i7_ s).2] []:=
 ACall.frz1 (abl_ s hs) (by simp[er_,frz,as_,T1_])
end
section
set_option maxRecDepth 100000
set_option maxHeartbeats 4000000
attribute [local go_sem] al_ aq_ jd_ cz_ ao_ in
theorem aet_ (s:Str) (hs:s.length≤281474976710656):ACall En 68 [.s s] [] [.ow 0 1 0 (i7_ s).1.length,.b (i7_ s).2] [⟨3,1,inR (i7_ s).1⟩]:=by
 have hL:=e1_ s
 have hM:=hb_ s
 have hG:=@za_ s
 have hB:=@ado_ s
 generalize hT:bt_ s=ls at *
 refine aa_ [33] Tryz.func68 Tryz.ntmps68 fun C=>?_
 refine .seq (.rgo [] ?_ ?_)
 ·(first|trivial|(simp;done)|(simpa using h15)|(simp at h15;simp[bx_,bw_];omega))
 refine .seq (.rgo [ab_ (show ACall En 30 [.s s] [] [.sl false (an_ ls)] []from hT ▸ k8_ s hs)] ?_ ?_)
 ·(first|trivial|(simp;done)|(simpa using h15)|(simp at h15;simp[bx_,bw_];omega))
 refine .seq (.rgo [] ?_ ?_)
 ·(first|trivial|(simp;done)|(simpa using h15)|(simp at h15;simp[bx_,bw_];omega))
 refine .seqJ (fun u:Unit=>⟨[.no,.no,.no,.no,.no,.sl false (bLR (rdl ls)),.no,.no,.no,.no,.no,.no,.no,.no,.no,.no,.no,.no,.no,.no,.no,.no,.no,.no,.no,.no,.no,.no,.no,.no,.no,.no,.no,.no,.no,.no,.no],ak_ [],us []⟩) (fun u:Unit=>ls.all (fun w=>(e2_ w).isSome)=true) ?_ (fun u hJ=>?_)
 ·refine .seq (.rgo [] ?_ ?_)
  ·(first|trivial|(simp;done)|(simpa using h15)|(simp at h15;simp[bx_,bw_];omega))
  refine .block (.loopK (fun k:Nat=>⟨[.no,.no,.no,.no,.sl false (an_ ls),.ow 20 10 0 k,.i .i64 k,.no,.no,.no,.no,.no,.no,.no,.no,.no,.no,.no,.no,.no,.no,.no,.no,.no,.no,.no,.no,.no,.no,.no,.no,.no,.no,.no,.no,.no,.no],ak_ [(20,⟨147,10,bLR ((rdl ls).take k)⟩)],us [20]⟩) (fun k:Nat=>k≤ls.length∧(ls.take k).all (fun w=>(e2_ w).isSome)=true) (fun k:Nat=>ls.length - k) (0) ?_ ?_ (fun k hI=>?_))
  ·exact⟨by simp,by simp⟩
  ·refine Can.trans (Can.ownSlot 5 20 147 10 (by simp only[go_sem,seval]<;>rfl) (by simp only[go_sem,seval]) (by simp only[go_sem,seval]<;>rfl)) ?_
   refine Can.wk ?_ ?_
   ·first|trivial|((try simp))
   ·first|trivial|(simp[bLR])
  refine .seq (.seq (.rgo [] ?_ ?_))
  ·(first|trivial|(simp;done)|(simpa using h15)|(simp at h15;simp[bx_,bw_];omega))
  refine .cB (fun h15=>?_) (fun h15=>?_)
  ·refine .skip (.seq (.block (.seq (.rgo [a4_ (k<ls.length) (fun h=>abn_ (ls.getD k []) (by have:=hM _ (am_ (d:=[]) h);omega))] ?_ ?_ (h:=by simp only[go_sem,seval,aw_ (show k<ls.length by simpa using h15)];rfl)))))
   ·(first|trivial|(simp;done)|(simpa using h15)|(simp at h15;simp[bx_,bw_];omega))
   refine .seq (.seq (.rgo [] ?_ ?_))
   ·(first|trivial|(simp;done)|(simpa using h15)|(simp at h15;simp[bx_,bw_];omega))
   refine .cB (fun h27=>?_) (fun h27=>?_)
   ·refine .seq (.rgo [] ?_ ?_)
    ·(first|trivial|(simp;done)|(simpa using h15)|(simp at h15;simp[bx_,bw_];omega))
    refine .can (Can.ownSlot 2 33 3 1 (by simp only[go_sem,seval]<;>rfl) (by simp only[go_sem,seval]) (by simp only[go_sem,seval]<;>rfl)) ?_
    refine .ret ⟨.inr rfl,?_⟩
    exact Out.mm (by simp only[Tryz.results68];rfl) (by simp only[ag_,rns,rn,go_sem,seval]<;>(rw[hB (by simpa using h15) (by simpa using h27)];simp)) (by simp only[at_,go_sem,seval]<;>(rw[hB (by simpa using h15) (by simpa using h27)];simp[inR]))
   ·refine .skip (.rgo [] ?_ ?_)
    ·(first|trivial|(simp;done)|(simpa using h15)|(simp at h15;simp[bx_,bw_];omega))
    refine .rgo [] ?_ ?_
    ·(first|trivial|(simp;done)|(simpa using h15)|(simp at h15;simp[bx_,bw_];omega))
    refine Exists.intro (k+1) ⟨?_,?_,?_⟩
    ·simp at h15;exact⟨by omega,by rw[abs_ (d:=[]) h15,hI.2];simpa using h27⟩
    ·simp at h15;omega
    refine Can.trans (Can.sX 42 20) ?_
    refine Can.wk ?_ ?_
    ·first|trivial|(rw[aj_ (by simp at h15;omega) (by simp at h15;omega)];(try simp))
    ·first|trivial|(simp at h15;rw[aer_ (by rw[bw_];exact h15),aib_ h15];simp[cz_])
  ·refine .exit ?_
   refine Exists.intro (()) ⟨?_,?_⟩
   ·simp at h15;have h2:=hI.2;rw[T1_ (by omega)]at h2;exact h2
   refine Can.trans (Can.frz 20 (by simp only[go_sem,seval]<;>rfl) (by simp only[go_sem,seval]) (by simp only[go_sem,seval]<;>rfl) (by simp only[go_sem,seval]<;>rfl)) ?_
   refine Can.wh ?_;first|trivial|(simp at h15;(obtain rfl:k=ls.length:=(by omega));simp[T1_,bw_,bx_,leV,af_])
 refine .seq (.rgo [bf_ [] [33] (ad1_ (rdl ls) (am1_ ls) (by rw[bw_];omega))] ?_ ?_)
 ·(first|trivial|(simp;done)|(simpa using h15)|(simp at h15;simp[bx_,bw_];omega))
 refine .ret ⟨.inr rfl,?_⟩
 exact Out.mm (by simp only[Tryz.results68];rfl) (by simp only[ag_,rns,rn,go_sem,seval]<;>(rw[hG hJ])) (by simp only[at_,go_sem,seval]<;>(rw[hG hJ];(try simp[be_,ao_])))
theorem afh_ (s:Str) (hs:s.length≤281474976710656):ACall En 68 [.s s] [] [.sl false (inR (i7_ s).1),.b (i7_ s).2] []:=
 ACall.frz1 (aet_ s hs) (by simp[er_,frz,as_,T1_])
end
section
set_option maxRecDepth 100000
def yh_ (b:List Pg) (w:Str):Str:=if prR (bo_ b)then(if w=[116,121,112,101]then js_ [gy_ (prL (bo_ b))]else st_ (hf_ (prL (bo_ b))))else [98,97,100,10]
def ic_ (w:Str):Prop:=w=[97,100,100]∨w=[112,117,116]∨w=[105,110]∨w=[111,117,116]
instance (w:Str):Decidable (ic_ w):=inferInstanceAs (Decidable (_∨_))
def ex_ (w:List Str):Bool:=decide (1<w.length)&&bd_ (w.getD 1 [])
def nd_ (w:List Str):List Int:=if ex_ w then [(av_ (w.getD 1 []):Int)]else []
theorem wp_ {w:List Str} (h:ex_ w=true):nd_ w=[(av_ (w.getD 1 []):Int)]:=by unfold nd_;rw[if_pos h]
def ld_ (b:List Pg) (w:List Str):List Pg × Bool:=
 if w.getD 0 []=[97,100,100]then(chg b b.length 0 [ax_ (w.drop 1)],bc_ b b.length 0 [ax_ (w.drop 1)])
 else if w.getD 0 []=[112,117,116]then(chg b (av_ (w.getD 1 [])) 1 [ax_ (w.drop 2)],bc_ b (av_ (w.getD 1 [])) 1 [ax_ (w.drop 2)])
 else if w.getD 0 []=[105,110]then(chg b (av_ (w.getD 1 [])) 0 [ax_ (w.drop 2)],bc_ b (av_ (w.getD 1 [])) 0 [ax_ (w.drop 2)])
 else(chg b (av_ (w.getD 1 [])) 1 [],bc_ b (av_ (w.getD 1 [])) 1 [])
theorem af0_ (b:List Pg) {w:Str} (h:ic_ w):fg_ b w=isWhat:=by
 rcases h with rfl|rfl|rfl|rfl<;>rfl
theorem w7_ {b:List Pg} {w:List Str} (h0:0<w.length) (hk:ic_ (w.getD 0 [])) (ha:w.getD 0 []≠[97,100,100]) (h:ex_ w=false∨w.getD 0 []=[111,117,116]∧w.length≠2):b8_ b w=(b,isWhat):=by
 unfold b8_
 rw[if_neg ha]
 by_cases h1:w.length=1
 ·rw[if_pos h1,af0_ b hk]
 rw[if_neg h1]
 by_cases h2:bd_ (w.getD 1 [])=false
 ·rw[if_pos h2]
 rw[if_neg h2]
 have h3:ex_ w=true:=by unfold ex_;rw[decide_eq_true (by omega)];simpa using h2
 rcases h with h|⟨h4,h5⟩
 ·rw[h3]at h;cases h
 ·rw[h4,if_neg (by decide),if_neg (by decide),if_neg (fun q=>h5 q.2),if_neg (by simp)]
theorem yy_ {b:List Pg} {w:List Str} (hk:ic_ (w.getD 0 [])) (h:w.getD 0 []=[97,100,100]∨ex_ w=true∧(w.getD 0 []=[112,117,116]∨w.getD 0 []=[105,110]∨w.length=2)):b8_ b w=hw_ b (ld_ b w).1 (ld_ b w).2:=by
 unfold b8_ ld_
 by_cases ha:w.getD 0 []=[97,100,100]
 ·rw[if_pos ha,if_pos ha]
 rw[if_neg ha,if_neg ha]
 obtain⟨h1,h2⟩:=h.resolve_left ha
 unfold ex_ at h1
 simp only[T5_,T3_]at h1
 rw[if_neg (by omega),if_neg (by rw[h1.2];simp)]
 rcases hk with hk|hk|hk|hk
 ·exact absurd hk ha
 ·rw[hk];rfl
 ·rw[hk];rfl
 ·rw[hk]at h2
  have:w.length=2:=by
   rcases h2 with h2|h2|h2
   ·exact absurd h2 (by decide)
   ·exact absurd h2 (by decide)
   ·exact h2
  rw[hk,if_neg (by decide),if_neg (by decide),if_pos ⟨rfl,this⟩,if_neg (by decide),if_neg (by decide)]
theorem aam_ (l:List Sg):(mapT l).length≤60000:=by
 unfold mapT
 split
 ·rename_i h
  have:=kz_ h l.length (Nat.le_refl _)
  have:=am6_ h
  omega
 ·simp
def ov_ (w:List Str):Prop:=w.length=3∧bd_ (w.getD 1 [])=true∧bd_ (w.getD 2 [])=true∧(w.getD 0 []=[108,111,111,107]∨w.getD 0 []=[98,97,99,107])
theorem vc_ {b:List Pg} {w:List Str} (h:ov_ w):b8_ b w=(b,ib_ b (w.getD 0 []) (av_ (w.getD 1 [])) (av_ (w.getD 2 []))):=by
 obtain⟨h1,h2,h3,h4⟩:=h
 unfold b8_
 have q:w.getD 0 []≠[97,100,100]∧w.getD 0 []≠[105,110]∧w.getD 0 []≠[112,117,116]∧w.getD 0 []≠[111,117,116]:=by
  rcases h4 with h|h<;>rw[h]<;>decide
 rw[if_neg q.1,if_neg (by omega),if_neg (by rw[h2];simp),if_neg q.2.1,if_neg q.2.2.1,if_neg (fun x=>q.2.2.2 x.1),if_pos ⟨h4,h1,h3⟩]
theorem gl_ {b:List Pg} {w:List Str} (hk:¬ic_ (w.getD 0 [])) (h:¬ov_ w):b8_ b w=(b,if w.length=1 then fg_ b (w.getD 0 [])else isWhat):=by
 unfold ic_ at hk
 simp only[not_or]at hk
 unfold b8_
 rw[if_neg hk.1]
 by_cases h1:w.length=1
 ·rw[if_pos h1,if_pos h1]
 rw[if_neg h1,if_neg h1]
 by_cases h2:bd_ (w.getD 1 [])=false
 ·rw[if_pos h2]
 rw[if_neg h2,if_neg hk.2.2.1,if_neg hk.2.1,if_neg (fun x=>hk.2.2.2 x.1),if_neg (fun x=>h ⟨x.2.1,by simpa using h2,x.2.2,x.1⟩)]
end
end Go.Proofs.YthjccajoadjicaaGreatDoor
