/- What an expression comes to: the program's and the reference's. Conditions: none. -/
import Derived.Test.YthjccajoadjicaaGreatDoorKi
import Derived.Test.YthjccajoadjicaaGreatDoorKh
import Derived.Test.YthjccajoadjicaaGreatDoorKe
import Derived.Test.YthjccajoadjicaaGreatDoorKd
set_option linter.unusedVariables false
set_option linter.unusedSimpArgs false
namespace Go.Proofs.YthjccajoadjicaaGreatDoor
section
set_option maxRecDepth 100000
set_option maxHeartbeats 4000000
theorem aid_ (n:Int):ACall En 228 [.i .i64 n] [] [.i .i64 (v2_ n)] []:=by
 refine aa_ [] Tryz.func228 Tryz.ntmps228 fun C=>?_
 refine .seq (.rg [] ?_)
 refine .seq (.rg [] ?_)
 refine .ret ⟨.inr rfl,?_⟩
 exact Out.pl (by simp only[Tryz.results228];rfl) (by simp only[ag_,go_sem,seval]<;>(simp only[List.cons.injEq,V.i.injEq,and_true,true_and];unfold v2_;by_cases h:n<1000000<;>simp only[h,if_true,if_false]<;>split<;>omega))
theorem asv_ (x y:Int):ACall En 311 [.i .i64 x,.i .i64 y] [] [.i .i64 (min x y)] []:=by
 refine aa_ [] Tryz.func311 Tryz.ntmps311 fun C=>?_
 refine .seq (.rg [] ?_)
 refine .seq (.seq (.rg [] ?_))
 refine .cB (fun h7=>?_) (fun h7=>?_)
 ·refine .seq (.rg [] ?_)
  refine .ret ⟨.inr rfl,?_⟩
  exact Out.pl (by simp only[Tryz.results311];rfl) (by simp only[ag_,go_sem,seval]<;>(congr 1;simp at *;omega))
 ·refine .skip (.seq (.rg [] ?_))
  refine .ret ⟨.inr rfl,?_⟩
  exact Out.pl (by simp only[Tryz.results311];rfl) (by simp only[ag_,go_sem,seval]<;>(congr 1;simp at *;omega))
theorem an1_ (x y:Int):ACall En 28 [.i .i64 x,.i .i64 y] [] [.i .i64 (max x y)] []:=by
 refine aa_ [] Tryz.func28 Tryz.ntmps28 fun C=>?_
 refine .seq (.rg [] ?_)
 refine .seq (.seq (.rg [] ?_))
 refine .cB (fun h7=>?_) (fun h7=>?_)
 ·refine .seq (.rg [] ?_)
  refine .ret ⟨.inr rfl,?_⟩
  exact Out.pl (by simp only[Tryz.results28];rfl) (by simp only[ag_,go_sem,seval]<;>(congr 1;simp at *;omega))
 ·refine .skip (.seq (.rg [] ?_))
  refine .ret ⟨.inr rfl,?_⟩
  exact Out.pl (by simp only[Tryz.results28];rfl) (by simp only[ag_,go_sem,seval]<;>(congr 1;simp at *;omega))
theorem aa6_ (n:Int):ACall En 291 [.i .i64 n] [] [.i .i64 (v2_ n)] []:=by
 refine aa_ [] Tryz.func291 Tryz.ntmps291 fun C=>?_
 refine .seq (.rg [] ?_)
 refine .seq (.rg [ab_ (asv_ 1000000 n),ab_ (an1_ (-1000000) (min 1000000 n))] ?_)
 refine .ret ⟨.inr rfl,?_⟩
 exact Out.pl (by simp only[Tryz.results291];rfl) (by simp only[ag_,go_sem,seval]<;>(rfl))
attribute [local go_sem] al_ aq_ in
theorem aja_ (N:List Str) (s:Str) (hl:N.length≤1000000):ACall En 290 [.sl false (an_ N),.s s] [] [.i .i64 (ff_ N s)] []:=by
 refine aa_ [] Tryz.func290 Tryz.ntmps290 fun C=>?_
 refine .seq (.rg [] ?_)
 refine .seq (.seq (.rg [] ?_))
 refine .block (.loopK (fun k:Nat=>⟨[.sl false (an_ N),.s s,.no,.no,.no,.i .i64 ((k:Int) - 1),.no,.no,.no,.no,.no,.no,.no,.no,.no,.no,.no,.no,.no,.no],ak_ [],us []⟩) (fun k:Nat=>k≤N.length∧ff_ N s=ke_ N k s) (fun k:Nat=>k) (N.length) ?_ ?_ (fun k hI=>?_))
 ·exact⟨Nat.le_refl _,rfl⟩
 ·refine Can.wh ?_;first|trivial|(rw[aj_ (by omega) (by omega)])
 refine .seq (.seq (.rg [] ?_))
 refine .cB (fun h10=>?_) (fun h10=>?_)
 ·refine .skip (.seq (.block (.seq (.rgo [] ?_ ?_ (h:=by simp only[go_sem,seval,aw_ (show k - 1<N.length by simp at h10;omega),show((k:Int) - 1).toNat=k - 1 by omega];rfl)))))
  ·simp at h10;simp;omega
  refine .cB (fun h18=>?_) (fun h18=>?_)
  ·refine .seq (.rg [] ?_)
   refine .ret ⟨.inr rfl,?_⟩
   exact Out.pl (by simp only[Tryz.results290];rfl) (by simp only[ag_,go_sem,seval]<;>(simp at h10;(obtain⟨j,rfl⟩:∃j,k=j+1:=⟨k - 1,by omega⟩);rw[hI.2];simp only[ke_];rw[if_pos (by simpa using h18)];simp only[List.cons.injEq,V.i.injEq,and_true,true_and];omega))
  ·refine .skip (.rg [] ?_)
   refine Exists.intro (k - 1) ⟨?_,?_,?_⟩
   ·simp at h10;refine⟨by omega,?_⟩;rw[hI.2];(obtain⟨j,rfl⟩:∃j,k=j+1:=⟨k - 1,by omega⟩);simp only[ke_];rw[if_neg (by simpa using h18)];rfl
   ·simp at h10;omega
   refine Can.wh ?_;first|trivial|(simp at h10;rw[aj_ (by omega) (by omega)];simp;omega)
 ·refine .exit (.seq (.rg [] ?_))
  refine .ret ⟨.inr rfl,?_⟩
  exact Out.pl (by simp only[Tryz.results290];rfl) (by simp only[ag_,go_sem,seval]<;>(simp at h10;(obtain rfl:k=0:=(by omega));rw[hI.2];rfl))
theorem ag0_ (a b:Int) (ha : -1000000≤a∧a≤1000000) (hb : -1000000≤b∧b≤1000000) : -1000000000000≤a * b∧a * b≤1000000000000:=by
 have h1:(a * b).natAbs≤1000000 * 1000000:=by rw[Int.natAbs_mul];exact Nat.mul_le_mul (by omega) (by omega)
 omega
theorem ax8_ (s:Str) (a b:Int) (ha : -1000000≤a∧a≤1000000) (hb : -1000000≤b∧b≤1000000):ACall En 292 [.s s,.i .i64 a,.i .i64 b] [] [.i .i64 (twI s a b)] []:=by
 have hm:=ag0_ a b ha hb
 refine aa_ [] Tryz.func292 Tryz.ntmps292 fun C=>?_
 refine .seq (.rg [] ?_)
 refine .seq (.seq (.rg [] ?_))
 refine .block (.seq (.rg [] ?_))
 refine .cB (fun h8=>?_) (fun h8=>?_)
 ·refine .seq (.rg [ab_ (aa6_ (a+b))] ?_ (h:=by simp only[go_sem,seval,aj_ (show -9223372036854775808≤a+b by omega) (by omega)];rfl))
  refine .ret ⟨.inr rfl,?_⟩
  exact Out.pl (by simp only[Tryz.results292];rfl) (by simp only[ag_,go_sem,seval]<;>(simp_all[twI]))
 ·refine .seq (.rg [] ?_)
  refine .cB (fun h14=>?_) (fun h14=>?_)
  ·refine .seq (.rg [ab_ (aa6_ (a - b))] ?_ (h:=by simp only[go_sem,seval,aj_ (show -9223372036854775808≤a - b by omega) (by omega)];rfl))
   refine .ret ⟨.inr rfl,?_⟩
   exact Out.pl (by simp only[Tryz.results292];rfl) (by simp only[ag_,go_sem,seval]<;>(simp_all[twI]))
  ·refine .seq (.rg [] ?_)
   refine .cB (fun h20=>?_) (fun h20=>?_)
   ·refine .seq (.rg [ab_ (aa6_ (a * b))] ?_ (h:=by simp only[go_sem,seval,aj_ (show -9223372036854775808≤a * b by omega) (by omega)];rfl))
    refine .ret ⟨.inr rfl,?_⟩
    exact Out.pl (by simp only[Tryz.results292];rfl) (by simp only[ag_,go_sem,seval]<;>(simp_all[twI]))
   ·refine .skip (.seq (.seq (.rg [] ?_)))
    refine .cB (fun h28=>?_) (fun h28=>?_)
    ·refine .seq (.rg [] ?_)
     refine .ret ⟨.inr rfl,?_⟩
     exact Out.pl (by simp only[Tryz.results292];rfl) (by simp only[ag_,go_sem,seval]<;>(simp_all[twI]))
    ·refine .skip (.seq (.rg [] ?_))
     refine .ret ⟨.inr rfl,?_⟩
     exact Out.pl (by simp only[Tryz.results292];rfl) (by simp only[ag_,go_sem,seval]<;>(simp_all[twI]))
attribute [local go_sem] as_ ao_ in
theorem p0_ (d:Nat):∀(e:E) (N:List Str) (M:List Int),form e d=true→N.length=M.length→N.length≤1000000→ACall En 160 [.ag (eC e),.sl false (an_ N),.sl false (inR M)] [] [.i .i64 (rk e N M).1,.b (rk e N M).2] []:=by
 induction d with
 |zero=>intro e N M h;have:=(ar_ h).1;omega
 |succ d ih=>
 intro e N M h hl hn
 have e1:((d+1:Nat):Int) - 1=(d:Int):=by omega
 have g3:e.kind=3→e.kids.length=2∧form (e.kids.getD 0 E0) d=true∧form (e.kids.getD 1 E0) d=true∧fm_ e.s=true:=fun hk=>by
  rcases (ar_ h).2 with⟨k1,_⟩|⟨k1,_⟩|⟨k1,h1,h2,h3,h4,h5⟩|⟨k1,_⟩<;>try omega
  rw[e1]at h4 h5;exact⟨h3,h4,h5,h2⟩
 have g4:e.kind=4→e.kids.length=1∧form (e.kids.getD 0 E0) d=true:=fun hk=>by
  rcases (ar_ h).2 with⟨k1,_⟩|⟨k1,_⟩|⟨k1,_⟩|⟨k1,h1,h2,h3,h4⟩<;>try omega
  rw[e1]at h4;exact⟨h3,h4⟩
 have g0:¬e.kind=1→¬e.kind=2→¬e.kind=4→e.kind=3:=fun a b c=>by
  rcases (ar_ h).2 with⟨k1,_⟩|⟨k1,_⟩|⟨k1,_⟩|⟨k1,_⟩<;>omega
 have hb:=p9_ N e.s
 have Q:e.kind=3→(-1000000≤(rk (e.kids.getD 0 E0) N M).1∧(rk (e.kids.getD 0 E0) N M).1≤1000000)∧(-1000000≤(rk (e.kids.getD 1 E0) N M).1∧(rk (e.kids.getD 1 E0) N M).1≤1000000):=fun hk=>
  ⟨ac7_ d _ N M (g3 hk).2.1,ac7_ d _ N M (g3 hk).2.2.1⟩
 have P:=fun hk=>ag0_ _ _ (Q hk).1 (Q hk).2
 have R1:=@afj_ e
 have R2:=@aaz_ e
 have R3:e.kind=3→rk e N M=qw_ e.s (rk (e.kids.getD 0 E0) N M) (rk (e.kids.getD 1 E0) N M):=fun hk=>afs_ hk (g3 hk).1 N M
 have R4:e.kind=4→rk e N M=rk (e.kids.getD 0 E0) N M:=fun hk=>aqq_ hk (g4 hk).1 N M
 refine aa_ [] Tryz.func160 Tryz.ntmps160 fun C=>?_
 refine .seq (.rg [] ?_)
 refine .seq (.seq (.rg [] ?_))
 refine .block (.seq (.rg [] ?_))
 refine .cB (fun h15=>?_) (fun h15=>?_)
 ·refine .seq (.rg [] ?_)
  refine .ret ⟨.inr rfl,?_⟩
  exact Out.pl (by simp only[Tryz.results160];rfl) (by simp only[ag_,go_sem,seval]<;>(rw[R1 (by simpa using h15)]))
 ·refine .seq (.rg [] ?_)
  refine .cB (fun h19=>?_) (fun h19=>?_)
  ·refine .seq (.rg [ab_ (apa_ N e.s (by omega))] ?_)
   refine .seq (.seq (.rg [] ?_))
   refine .cB (fun h26=>?_) (fun h26=>?_)
   ·refine .seq (.rg [] ?_)
    refine .ret ⟨.inr rfl,?_⟩
    exact Out.pl (by simp only[Tryz.results160];rfl) (by simp only[ag_,go_sem,seval]<;>(rw[R2 (by simpa using h19),if_pos (by simpa using h26)]))
   ·refine .skip (.seq (.rgo [ab_ (aid_ (M.getD (ff_ N e.s).toNat 0))] ?_ ?_ (h:=by simp only[go_sem,seval,c8_ (show(ff_ N e.s).toNat<M.length by simp at h26;omega)];rfl)))
    ·simp at h26;(try simp);omega
    refine .ret ⟨.inr rfl,?_⟩
    exact Out.pl (by simp only[Tryz.results160];rfl) (by simp only[ag_,go_sem,seval]<;>(rw[R2 (by simpa using h19),if_neg (by simpa using h26)]))
  ·refine .seq (.rg [] ?_)
   refine .cB (fun h32=>?_) (fun h32=>?_)
   ·refine .seq (.rgo [ab_ (ih (e.kids.getD 0 E0) N M (g4 (by simpa using h32)).2 hl hn)] ?_ ?_ (h:=by simp only[go_sem,seval,b7_ (show 0<e.kids.length by have:=g4 (by simpa using h32);omega)];rfl))
    ·have:=g4 (by simpa using h32);simp;omega
    refine .ret ⟨.inr rfl,?_⟩
    exact Out.pl (by simp only[Tryz.results160];rfl) (by simp only[ag_,go_sem,seval]<;>(rw[R4 (by simpa using h32)]))
   ·refine .skip (.seq (.rgo [ab_ (ih (e.kids.getD 0 E0) N M (g3 (g0 (by simpa using h15) (by simpa using h19) (by simpa using h32))).2.1 hl hn)] ?_ ?_ (h:=by simp only[go_sem,seval,b7_ (show 0<e.kids.length by have:=g3 (g0 (by simpa using h15) (by simpa using h19) (by simpa using h32));omega)];rfl)))
    ·have:=g3 (g0 (by simpa using h15) (by simpa using h19) (by simpa using h32));simp;omega
    refine .seq (.rgo [ab_ (ih (e.kids.getD 1 E0) N M (g3 (g0 (by simpa using h15) (by simpa using h19) (by simpa using h32))).2.2.1 hl hn)] ?_ ?_ (h:=by simp only[go_sem,seval,b7_ (show 1<e.kids.length by have:=g3 (g0 (by simpa using h15) (by simpa using h19) (by simpa using h32));omega)];rfl))
    ·have:=g3 (g0 (by simpa using h15) (by simpa using h19) (by simpa using h32));simp;omega
    refine .seq (.seq (.rg [] ?_))
    refine .cB (fun h68=>?_) (fun h68=>?_)
    ·refine .seq (.rg [] ?_)
     refine .ret ⟨.inr rfl,?_⟩
     exact Out.pl (by simp only[Tryz.results160];rfl) (by simp only[ag_,go_sem,seval]<;>(rw[R3 (g0 (by simpa using h15) (by simpa using h19) (by simpa using h32))];simp at h68;(rcases h68 with h|h<;>simp[qw_,h])))
    ·refine .skip (.seq (.seq (.rg [] ?_)))
     refine .block (.seq (.rg [] ?_))
     refine .cB (fun h71=>?_) (fun h71=>?_)
     ·refine .seq (.rg [ab_ (aid_ ((rk (e.kids.getD 0 E0) N M).1+(rk (e.kids.getD 1 E0) N M).1))] ?_ (h:=by simp only[go_sem,seval,aj_ (show -9223372036854775808≤(rk (e.kids.getD 0 E0) N M).1+(rk (e.kids.getD 1 E0) N M).1 by have:=Q (g0 (by simpa using h15) (by simpa using h19) (by simpa using h32));omega) (by have:=Q (g0 (by simpa using h15) (by simpa using h19) (by simpa using h32));omega)];rfl))
      refine .ret ⟨.inr rfl,?_⟩
      exact Out.pl (by simp only[Tryz.results160];rfl) (by simp only[ag_,go_sem,seval]<;>(rw[R3 (g0 (by simpa using h15) (by simpa using h19) (by simpa using h32))];simp at h68 h71;simp[qw_,twI,h68,h71]))
     ·refine .seq (.rg [] ?_)
      refine .cB (fun h77=>?_) (fun h77=>?_)
      ·refine .seq (.rg [ab_ (aid_ ((rk (e.kids.getD 0 E0) N M).1 - (rk (e.kids.getD 1 E0) N M).1))] ?_ (h:=by simp only[go_sem,seval,aj_ (show -9223372036854775808≤(rk (e.kids.getD 0 E0) N M).1 - (rk (e.kids.getD 1 E0) N M).1 by have:=Q (g0 (by simpa using h15) (by simpa using h19) (by simpa using h32));omega) (by have:=Q (g0 (by simpa using h15) (by simpa using h19) (by simpa using h32));omega)];rfl))
       refine .ret ⟨.inr rfl,?_⟩
       exact Out.pl (by simp only[Tryz.results160];rfl) (by simp only[ag_,go_sem,seval]<;>(rw[R3 (g0 (by simpa using h15) (by simpa using h19) (by simpa using h32))];simp at h68 h71 h77;simp[qw_,twI,h68,h71,h77]))
      ·refine .seq (.rg [] ?_)
       refine .cB (fun h83=>?_) (fun h83=>?_)
       ·refine .seq (.rg [ab_ (aid_ ((rk (e.kids.getD 0 E0) N M).1 * (rk (e.kids.getD 1 E0) N M).1))] ?_ (h:=by simp only[go_sem,seval,aj_ (show -9223372036854775808≤(rk (e.kids.getD 0 E0) N M).1 * (rk (e.kids.getD 1 E0) N M).1 by have:=P (g0 (by simpa using h15) (by simpa using h19) (by simpa using h32));omega) (by have:=P (g0 (by simpa using h15) (by simpa using h19) (by simpa using h32));omega)];rfl))
        refine .ret ⟨.inr rfl,?_⟩
        exact Out.pl (by simp only[Tryz.results160];rfl) (by simp only[ag_,go_sem,seval]<;>(rw[R3 (g0 (by simpa using h15) (by simpa using h19) (by simpa using h32))];simp at h68 h71 h77 h83;simp[qw_,twI,h68,h71,h77,h83]))
       ·refine .skip (.seq (.seq (.rg [] ?_)))
        refine .cB (fun h91=>?_) (fun h91=>?_)
        ·refine .seq (.rg [] ?_)
         refine .ret ⟨.inr rfl,?_⟩
         exact Out.pl (by simp only[Tryz.results160];rfl) (by simp only[ag_,go_sem,seval]<;>(rw[R3 (g0 (by simpa using h15) (by simpa using h19) (by simpa using h32))];simp at h68 h71 h77 h83 h91;simp[qw_,twI,h68,h71,h77,h83,h91]))
        ·refine .skip (.seq (.rg [] ?_))
         refine .ret ⟨.inr rfl,?_⟩
         exact Out.pl (by simp only[Tryz.results160];rfl) (by simp only[ag_,go_sem,seval]<;>(rw[R3 (g0 (by simpa using h15) (by simpa using h19) (by simpa using h32))];simp at h68 h71 h77 h83 h91;simp[qw_,twI,h68,h71,h77,h83,Int.not_lt.2 h91]))
attribute [local go_sem] as_ ao_ in
theorem ajc_ (d:Nat):∀(e:E) (N:List Str) (M:List Int),form e d=true→N.length=M.length→N.length≤1000000→ACall En 248 [.ag (eC e),.sl false (an_ N),.sl false (inR M)] [] [.i .i64 (rk e N M).1,.b (rk e N M).2] []:=by
 induction d with
 |zero=>intro e N M h;have:=(ar_ h).1;omega
 |succ d ih=>
 intro e N M h hl hn
 have e1:((d+1:Nat):Int) - 1=(d:Int):=by omega
 have g3:e.kind=3→e.kids.length=2∧form (e.kids.getD 0 E0) d=true∧form (e.kids.getD 1 E0) d=true∧fm_ e.s=true:=fun hk=>by
  rcases (ar_ h).2 with⟨k1,_⟩|⟨k1,_⟩|⟨k1,h1,h2,h3,h4,h5⟩|⟨k1,_⟩<;>try omega
  rw[e1]at h4 h5;exact⟨h3,h4,h5,h2⟩
 have g4:e.kind=4→e.kids.length=1∧form (e.kids.getD 0 E0) d=true:=fun hk=>by
  rcases (ar_ h).2 with⟨k1,_⟩|⟨k1,_⟩|⟨k1,_⟩|⟨k1,h1,h2,h3,h4⟩<;>try omega
  rw[e1]at h4;exact⟨h3,h4⟩
 have g0:¬e.kind=1→¬e.kind=2→¬e.kind=4→e.kind=3:=fun a b c=>by
  rcases (ar_ h).2 with⟨k1,_⟩|⟨k1,_⟩|⟨k1,_⟩|⟨k1,_⟩<;>omega
 have hb:=p9_ N e.s
 have Q:e.kind=3→(-1000000≤(rk (e.kids.getD 0 E0) N M).1∧(rk (e.kids.getD 0 E0) N M).1≤1000000)∧(-1000000≤(rk (e.kids.getD 1 E0) N M).1∧(rk (e.kids.getD 1 E0) N M).1≤1000000):=fun hk=>
  ⟨ac7_ d _ N M (g3 hk).2.1,ac7_ d _ N M (g3 hk).2.2.1⟩
 have P:=fun hk=>ag0_ _ _ (Q hk).1 (Q hk).2
 have R1:=@afj_ e
 have R2:=@aaz_ e
 have R3:e.kind=3→rk e N M=qw_ e.s (rk (e.kids.getD 0 E0) N M) (rk (e.kids.getD 1 E0) N M):=fun hk=>afs_ hk (g3 hk).1 N M
 have R4:e.kind=4→rk e N M=rk (e.kids.getD 0 E0) N M:=fun hk=>aqq_ hk (g4 hk).1 N M
 refine aa_ [] Tryz.func248 Tryz.ntmps248 fun C=>?_
 refine .seq (.rg [] ?_)
 refine .seq (.seq (.rg [] ?_))
 refine .block (.seq (.rg [] ?_))
 refine .cB (fun h15=>?_) (fun h15=>?_)
 ·refine .seq (.rg [] ?_)
  refine .ret ⟨.inr rfl,?_⟩
  exact Out.pl (by simp only[Tryz.results248];rfl) (by simp only[ag_,go_sem,seval]<;>(rw[R1 (by simpa using h15)]))
 ·refine .seq (.rg [] ?_)
  refine .cB (fun h19=>?_) (fun h19=>?_)
  ·refine .seq (.rg [ab_ (aja_ N e.s (by omega))] ?_)
   refine .seq (.seq (.rg [] ?_))
   refine .cB (fun h26=>?_) (fun h26=>?_)
   ·refine .seq (.rg [] ?_)
    refine .ret ⟨.inr rfl,?_⟩
    exact Out.pl (by simp only[Tryz.results248];rfl) (by simp only[ag_,go_sem,seval]<;>(rw[R2 (by simpa using h19),if_pos (by simpa using h26)]))
   ·refine .skip (.seq (.rgo [ab_ (aa6_ (M.getD (ff_ N e.s).toNat 0))] ?_ ?_ (h:=by simp only[go_sem,seval,c8_ (show(ff_ N e.s).toNat<M.length by simp at h26;omega)];rfl)))
    ·simp at h26;(try simp);omega
    refine .ret ⟨.inr rfl,?_⟩
    exact Out.pl (by simp only[Tryz.results248];rfl) (by simp only[ag_,go_sem,seval]<;>(rw[R2 (by simpa using h19),if_neg (by simpa using h26)]))
  ·refine .seq (.rg [] ?_)
   refine .cB (fun h32=>?_) (fun h32=>?_)
   ·refine .seq (.rgo [ab_ (ih (e.kids.getD 0 E0) N M (g4 (by simpa using h32)).2 hl hn)] ?_ ?_ (h:=by simp only[go_sem,seval,b7_ (show 0<e.kids.length by have:=g4 (by simpa using h32);omega)];rfl))
    ·have:=g4 (by simpa using h32);simp;omega
    refine .ret ⟨.inr rfl,?_⟩
    exact Out.pl (by simp only[Tryz.results248];rfl) (by simp only[ag_,go_sem,seval]<;>(rw[R4 (by simpa using h32)]))
   ·refine .skip (.seq (.rgo [ab_ (ih (e.kids.getD 0 E0) N M (g3 (g0 (by simpa using h15) (by simpa using h19) (by simpa using h32))).2.1 hl hn)] ?_ ?_ (h:=by simp only[go_sem,seval,b7_ (show 0<e.kids.length by have:=g3 (g0 (by simpa using h15) (by simpa using h19) (by simpa using h32));omega)];rfl)))
    ·have:=g3 (g0 (by simpa using h15) (by simpa using h19) (by simpa using h32));simp;omega
    refine .seq (.rgo [ab_ (ih (e.kids.getD 1 E0) N M (g3 (g0 (by simpa using h15) (by simpa using h19) (by simpa using h32))).2.2.1 hl hn)] ?_ ?_ (h:=by simp only[go_sem,seval,b7_ (show 1<e.kids.length by have:=g3 (g0 (by simpa using h15) (by simpa using h19) (by simpa using h32));omega)];rfl))
    ·have:=g3 (g0 (by simpa using h15) (by simpa using h19) (by simpa using h32));simp;omega
    refine .seq (.seq (.rg [] ?_))
    refine .cB (fun h68=>?_) (fun h68=>?_)
    ·refine .seq (.rg [] ?_)
     refine .ret ⟨.inr rfl,?_⟩
     exact Out.pl (by simp only[Tryz.results248];rfl) (by simp only[ag_,go_sem,seval]<;>(rw[R3 (g0 (by simpa using h15) (by simpa using h19) (by simpa using h32))];simp at h68;(rcases h68 with h|h<;>simp[qw_,h])))
    ·refine .skip (.seq (.rg [ab_ (ax8_ e.s (rk (e.kids.getD 0 E0) N M).1 (rk (e.kids.getD 1 E0) N M).1 (Q (g0 (by simpa using h15) (by simpa using h19) (by simpa using h32))).1 (Q (g0 (by simpa using h15) (by simpa using h19) (by simpa using h32))).2)] ?_))
     refine .ret ⟨.inr rfl,?_⟩
     exact Out.pl (by simp only[Tryz.results248];rfl) (by simp only[ag_,go_sem,seval]<;>(rw[R3 (g0 (by simpa using h15) (by simpa using h19) (by simpa using h32))];simp at h68;simp[qw_,h68]))
end
section
set_option maxRecDepth 100000
set_option maxHeartbeats 4000000
def bLR (l:List Bl):List (List V):=l.map bC
theorem bx_ (l:List Bl):(bLR l).length=l.length:=by simp[bLR]
theorem asa_ (b:Bl):bv_ (bC b)=true:=by rw[cz_];simp only[bv_,V.pure,ht_,Bool.and_self]
theorem jd_ (l:List Bl):bh_ (bLR l)=true:=ka_.2 fun r hr=>by obtain⟨s,_,rfl⟩:=List.mem_map.1 hr;exact asa_ s
theorem ts_ {l:List Bl} {k:Nat} (h:k<l.length):(bLR l).getD k []=bC (l.getD k B0):=by
 simp[bLR,T8_,T6_ h]
theorem au6_ (a b:List Bl):bLR (a++b)=bLR a++bLR b:=by simp[bLR]
def allB (l:List Bl):Bool:=l.all smb
theorem aii_ {l:List Bl} (h:allB l=true) {k:Nat} (hk:k<l.length):smb (l.getD k B0)=true:=List.all_eq_true.1 h _ (am_ hk)
attribute [local go_sem] cz_ in
theorem agl_ (b:Bl) (hs:smb b=true):ACall En 224 [.ag (bC b)] [] [.b (!bok b)] []:=by
 refine aa_ [] Tryz.func224 Tryz.ntmps224 fun C=>?_
 refine .seq (.rg [] ?_)
 refine .seq (.rg [ab_ (q4_ b hs)] ?_)
 refine .ret ⟨.inr rfl,?_⟩
 exact Out.pl (by simp only[Tryz.results224];rfl) (by simp only[ag_,go_sem,seval]<;>(rfl))
attribute [local go_sem] bx_ jd_ cz_ in
theorem asx_ (l:List Bl) (hs:allB l=true) (hl:l.length<4611686018427387904):ACall En 273 [.sl false (bLR l),.fn (.func 224) [] []] [] [.i .i64 (nz_ (fun s=>!bok s) l)] []:=by
 refine aa_ [] Tryz.func273 Tryz.ntmps273 fun C=>?_
 refine .seq (.rg [] ?_)
 refine .seq (.seq (.rg [] ?_))
 refine .block (.loopK (fun k:Nat=>⟨[.sl false (bLR l),.fn (.func 224) [] [],.no,.no,.no,.no,.no,.i .i64 l.length,.i .i64 k,.no,.no,.no,.no,.no,.no,.no,.no,.no,.no],ak_ [],us []⟩) (fun k:Nat=>k≤l.length∧(l.take k).any (fun s=>!bok s)=false) (fun k:Nat=>l.length - k) (0) ?_ ?_ (fun k hI=>?_))
 ·simp
 ·refine Can.wh ?_;first|trivial|(simp)
 refine .seq (.rg [] ?_)
 refine .seq (.cB (fun h9=>?_) (fun h9=>?_))
 ·refine .skip (.seq (.block (.seq (.rg [] ?_))))
  refine .seq (.rgo [a4_ (k<l.length) (fun h=>agl_ (l.getD k B0) (aii_ hs h))] ?_ ?_ (h:=by simp only[go_sem,seval,ts_ (show k<l.length by simpa using h9)];rfl))
  ·simp only[T3_]at h9;simp;omega
  refine .cB (fun h16=>?_) (fun h16=>?_)
  ·refine .seq (.rg [] ?_)
   refine .ret ⟨.inr rfl,?_⟩
   exact Out.pl (by simp only[Tryz.results273];rfl) (by simp only[ag_,go_sem,seval]<;>(simp at h9;rw[o6_ (d:=B0) h9 hI.2 h16]))
  ·refine .skip (.rg [] ?_)
   refine Exists.intro (k+1) ⟨?_,?_,?_⟩
   ·simp at h9;refine⟨by omega,?_⟩;rw[i0_ (d:=B0) h9,hI.2,h16];rfl
   ·simp at h9;omega
   refine Can.wh ?_;first|trivial|(rw[aj_ (by omega) (by omega)];simp)
 ·refine .exit (.seq (.rg [] ?_))
  refine .ret ⟨.inr rfl,?_⟩
  exact Out.pl (by simp only[Tryz.results273];rfl) (by simp only[ag_,go_sem,seval]<;>(simp at h9;have h0:=hI.2;rw[T1_ h9]at h0;rw[it_ h0]))
attribute [local go_sem] jd_ in
theorem aa3_ (l:List Bl) (hs:allB l=true) (hl:l.length<4611686018427387904):ACall En 223 [.sl false (bLR l),.fn (.func 224) [] []] [] [.b (l.any fun s=>!bok s)] []:=by
 refine aa_ [] Tryz.func223 Tryz.ntmps223 fun C=>?_
 refine .seq (.rg [] ?_)
 refine .seq (.rg [ab_ (asx_ l hs hl)] ?_)
 refine .ret ⟨.inr rfl,?_⟩
 exact Out.pl (by simp only[Tryz.results223];rfl) (by simp only[ag_,go_sem,seval]<;>(rw[m6_]))
theorem anyB (l:List Bl):(l.any fun s=>!bok s)=!l.all bok:=by rw[List.any_eq_not_all_not];simp
theorem dd_ {l:List Bl} (h:lok l=true):1≤l.length∧l.length≤16∧∀k,k<l.length→bok (l.getD k B0)=true:=by
 simp only[lok,T5_,T3_,List.all_eq_true]at h
 exact⟨h.1.1,h.1.2,fun k hk=>h.2 _ (am_ hk)⟩
theorem ut_ {b:Bl} (h:bok b=true) (k:¬b.kind=0):eok b.expr=true:=by
 have h0:c0_ b=true:=by simp only[bok,T5_]at h;exact h.1
 unfold c0_ at h0
 by_cases k1:b.kind=1
 ·simp[k1]at h0;exact cb_ h0.1.2
 by_cases k2:b.kind=2
 ·simp[k2]at h0;exact cb_ h0.1.2
 by_cases k3:b.kind=3
 ·simp[k3]at h0;exact cb_ h0.1.2
 ·simp[k,k1,k2,k3]at h0
theorem aal_ {b:Bl} (h:bok b=true) (k:b.kind=3):eok b.thn=true:=by
 have h0:c0_ b=true:=by simp only[bok,T5_]at h;exact h.1
 unfold c0_ at h0
 simp[k]at h0;exact cb_ h0.2
theorem aqh_ {b:Bl} (h:bok b=true):b.kind=0∨b.kind=1∨b.kind=2∨b.kind=3:=by
 have h0:c0_ b=true:=by simp only[bok,T5_]at h;exact h.1
 unfold c0_ at h0
 by_cases k0:b.kind=0
 ·exact .inl k0
 by_cases k1:b.kind=1
 ·exact .inr (.inl k1)
 by_cases k2:b.kind=2
 ·exact .inr (.inr (.inl k2))
 by_cases k3:b.kind=3
 ·exact .inr (.inr (.inr k3))
 ·simp[k0,k1,k2,k3]at h0
theorem al8_ {r:Rs} {b:Bl} (k:b.kind=0):es_ r b=r:=by unfold es_;split<;>simp_all
theorem xa_ {r:Rs} {b:Bl} (h:r.ok=true) (k:¬b.kind=0) (h2:(dc_ b r.names r.nums).2.2=false):es_ r b={ r with ok:=false }:=by simp[es_,h,k,h2]
theorem apr_ {r:Rs} {b:Bl} (h:r.ok=true) (k:b.kind=1) (h2:(dc_ b r.names r.nums).2.2=true):es_ r b={ r with names:=r.names++[b.name],nums:=r.nums++[(rk b.expr r.names r.nums).1] }:=by
 have:(dc_ b r.names r.nums).1=(rk b.expr r.names r.nums).1:=by unfold dc_;split<;>rfl
 simp[es_,h,k,h2,this]
theorem alc_ {r:Rs} {b:Bl} (h:r.ok=true) (k:¬b.kind=0) (k1:¬b.kind=1) (h2:(dc_ b r.names r.nums).2.2=true) (h3:b.kind=2∨¬(rk b.expr r.names r.nums).1=0):es_ r b={ r with said:=r.said++[(dc_ b r.names r.nums).2.1] }:=by
 have e:(dc_ b r.names r.nums).1=(rk b.expr r.names r.nums).1:=by unfold dc_;split<;>rfl
 unfold es_
 rw[if_neg (by simp[h]),if_neg k,if_neg (by simp[h2]),if_neg k1,if_pos (by rw[e];exact h3)]
theorem alx_ {r:Rs} {b:Bl} (h:r.ok=true) (k:¬b.kind=0) (k1:¬b.kind=1) (h2:(dc_ b r.names r.nums).2.2=true) (h3:¬b.kind=2) (h4:(rk b.expr r.names r.nums).1=0):es_ r b=r:=by
 have e:(dc_ b r.names r.nums).1=(rk b.expr r.names r.nums).1:=by unfold dc_;split<;>rfl
 unfold es_
 rw[if_neg (by simp[h]),if_neg k,if_neg (by simp[h2]),if_neg k1,if_neg (by rw[e];simp[h3,h4])]
theorem c2_ (l:List Int) (n:Int):inR (l++[n])=inR l++[[.i .i64 n]]:=by rw[t1_];rfl
theorem k7_ (l:List Str) (s:Str):an_ (l++[s])=an_ l++[[.s s]]:=by rw[b6_];rfl
attribute [local go_sem] ao_ in
theorem m8_ (l:List Int) (n:Nat) (hn:n=l.length) (hl:l.length<1099511627776):ACall En 137 [.ow 0 1 0 n] [⟨3,1,inR l⟩] [.ow 0 1 0 n] [⟨3,1,inR l⟩]:=by
 refine aa_ [0] Tryz.func137 Tryz.ntmps137 fun C=>?_
 refine .seq (.rgo [] ?_ ?_)
 ·subst hn;simp[as_]
 refine .seq (.rgo [] ?_ ?_)
 ·subst hn;simp[as_]
 refine .ret ⟨.inr rfl,?_⟩
 exact Out.mm (by simp only[Tryz.results137];rfl) (by simp only[ag_,rns,rn,go_sem,seval]<;>(simp)) (by simp only[at_,go_sem,seval]<;>(simp[be_,ao_]))
theorem ea_ {l:List Bl} {k:Nat} (hk:k≤l.length) (h16:l.length≤16):(a0_ (l.take k)).names.length=(a0_ (l.take k)).nums.length∧(a0_ (l.take k)).names.length≤16∧(a0_ (l.take k)).said.length≤16:=by
 have:=ow_ l k hk;omega
theorem g8_ {l:List Bl} {k:Nat} (hk:k<l.length) (h:(l.getD k B0).kind=0):a0_ (l.take (k+1))=a0_ (l.take k):=by rw[hi_ hk,al8_ h]
theorem ja_ {l:List Bl} {k:Nat} (hk:k<l.length) (h:(a0_ (l.take k)).ok=true) (h1:(l.getD k B0).kind=1) (h2:(dc_ (l.getD k B0) (a0_ (l.take k)).names (a0_ (l.take k)).nums).2.2=true) :
  a0_ (l.take (k+1))={ a0_ (l.take k)with names:=(a0_ (l.take k)).names++[(l.getD k B0).name],nums:=(a0_ (l.take k)).nums++[(rk (l.getD k B0).expr (a0_ (l.take k)).names (a0_ (l.take k)).nums).1] }:=by rw[hi_ hk,apr_ h h1 h2]
theorem fs_ {l:List Bl} {k:Nat} (hk:k<l.length) (h:(a0_ (l.take k)).ok=true) (h0:¬(l.getD k B0).kind=0) (h1:¬(l.getD k B0).kind=1) (h2:(dc_ (l.getD k B0) (a0_ (l.take k)).names (a0_ (l.take k)).nums).2.2=true) (h3:(l.getD k B0).kind=2∨¬(rk (l.getD k B0).expr (a0_ (l.take k)).names (a0_ (l.take k)).nums).1=0) :
  a0_ (l.take (k+1))={ a0_ (l.take k)with said:=(a0_ (l.take k)).said++[(dc_ (l.getD k B0) (a0_ (l.take k)).names (a0_ (l.take k)).nums).2.1] }:=by rw[hi_ hk,alc_ h h0 h1 h2 h3]
theorem hg_ {l:List Bl} {k:Nat} (hk:k<l.length) (h:(a0_ (l.take k)).ok=true) (h0:¬(l.getD k B0).kind=0) (h1:¬(l.getD k B0).kind=1) (h2:(dc_ (l.getD k B0) (a0_ (l.take k)).names (a0_ (l.take k)).nums).2.2=true) (h3:¬(l.getD k B0).kind=2) (h4:(rk (l.getD k B0).expr (a0_ (l.take k)).names (a0_ (l.take k)).nums).1=0) :
  a0_ (l.take (k+1))=a0_ (l.take k):=by rw[hi_ hk,alx_ h h0 h1 h2 h3 h4]
theorem mn_ {l:List Bl} {k:Nat} (hl:lok l=true) (hk:k<l.length) (h:(a0_ (l.take k)).ok=true) (h0:¬(l.getD k B0).kind=0) (h2:(dc_ (l.getD k B0) (a0_ (l.take k)).names (a0_ (l.take k)).nums).2.2=false):j3_ l=((a0_ (l.take k)).said,false):=by
 have e:=hi_ hk
 rw[xa_ h h0 h2]at e
 have e2:=xy_ (l:=l) (k:=k+1) (by omega) (by rw[e])
 unfold j3_;rw[if_pos hl,e2,e]
theorem oy_ {l:List Bl} {k:Nat} (hl:lok l=true) (hk:l.length≤k) (h:(a0_ (l.take k)).ok=true):j3_ l=((a0_ (l.take k)).said,true):=by
 rw[T1_ hk]at h ⊢
 unfold j3_;rw[if_pos hl,h]
theorem o1_ {l:List Bl} (h:lok l=false):j3_ l=([],false):=by unfold j3_;rw[h];rfl
theorem ag2_ (l:List Bl):lok l=!(!(decide ((1:Int)≤l.length)&&decide ((l.length:Int)≤16))||l.any fun s=>!bok s):=by
 rw[anyB];simp only[lok,Bool.not_or,Bool.not_not,dq_];rfl
attribute [local go_sem] bx_ jd_ as_ ao_ cz_ in
theorem aem_ (l:List Bl) (hs:allB l=true) (hl:l.length<4611686018427387904):ACall En 157 [.sl false (bLR l)] [] [.ow 0 1 0 (j3_ l).1.length,.b (j3_ l).2] [⟨3,1,inR (j3_ l).1⟩]:=by
 have F1:∀k,lok l=true→k<l.length→¬(l.getD k B0).kind=0→form (l.getD k B0).expr ((5:Nat):Int)=true:=fun k h hk hk0=>ay_ (ut_ ((dd_ h).2.2 k hk) hk0)
 have F2:∀k,lok l=true→k<l.length→(l.getD k B0).kind=3→form (l.getD k B0).thn ((5:Nat):Int)=true:=fun k h hk hk0=>ay_ (aal_ ((dd_ h).2.2 k hk) hk0)
 refine aa_ [22] Tryz.func157 Tryz.ntmps157 fun C=>?_
 refine .seq (.rg [] ?_)
 refine .seq (.seq (.rg [ab_ (sz_ l.length 1 16),ab_ (aa3_ l hs hl)] ?_))
 refine .cB (fun h19=>?_) (fun h19=>?_)
 ·refine .seq (.rg [] ?_)
  refine .can (Can.ownSlot 2 22 3 1 (by simp only[go_sem,seval]<;>rfl) (by simp only[go_sem,seval]) (by simp only[go_sem,seval]<;>rfl)) ?_
  refine .ret ⟨.inr rfl,?_⟩
  exact Out.mm (by simp only[Tryz.results157];rfl) (by simp only[ag_,rns,rn,go_sem,seval]<;>(rw[o1_ (by rw[ag2_,h19];rfl)];try simp)) (by simp only[at_,go_sem,seval]<;>(rw[o1_ (by rw[ag2_,h19];rfl)];simp[inR]))
 ·refine .skip (.seq (.rg [] ?_))
  refine .seq (.rg [] ?_)
  refine .seq (.seq (.rg [] ?_))
  refine .block (.loopK (fun k:Nat=>⟨[.sl false (bLR l),.no,.no,.no,.ow 20 1 0 (a0_ (l.take k)).names.length,.ow 21 1 0 (a0_ (l.take k)).nums.length,.ow 22 1 0 (a0_ (l.take k)).said.length,.no,.no,.no,.no,.no,.no,.no,.no,.no,.no,.no,.no,.no,.sl false (bLR l),.i .i64 l.length,.i .i64 k,.no,.no,.no,.no,.no,.no,.no,.no,.no,.no,.no,.no,.no,.no,.no,.no,.no,.no,.no,.no,.no,.no,.no,.no,.no,.no,.no,.no,.no,.no,.no,.no,.no,.no,.no,.no,.no,.no,.no,.no,.no,.no,.no,.no,.no,.no,.no,.no,.no,.no,.no,.no,.no,.no,.no,.no,.no,.no,.no],ak_ [(20,⟨9,1,an_ (a0_ (l.take k)).names⟩),(21,⟨3,1,inR (a0_ (l.take k)).nums⟩),(22,⟨3,1,inR (a0_ (l.take k)).said⟩)],us [20,21,22]⟩) (fun k:Nat=>k≤l.length∧(a0_ (l.take k)).ok=true∧lok l=true) (fun k:Nat=>l.length - k) (0) ?_ ?_ (fun k hI=>?_))
  ·exact⟨Nat.zero_le _,by simp[a0_],by rw[ag2_,h19];rfl⟩
  ·refine Can.trans (Can.ownSlot 4 20 9 1 (by simp only[go_sem,seval]<;>rfl) (by simp only[go_sem,seval]) (by simp only[go_sem,seval]<;>rfl)) ?_
   refine Can.trans (Can.ownSlot 5 21 3 1 (by simp only[go_sem,seval]<;>rfl) (by simp only[go_sem,seval]) (by simp only[go_sem,seval]<;>rfl)) ?_
   refine Can.trans (Can.ownSlot 6 22 3 1 (by simp only[go_sem,seval]<;>rfl) (by simp only[go_sem,seval]) (by simp only[go_sem,seval]<;>rfl)) ?_
   refine Can.wk ?_ ?_
   ·first|trivial|(simp[a0_])
   ·first|trivial|(simp[a0_,an_,inR])
  refine .seq (.rg [] ?_)
  refine .seq (.cB (fun h23=>?_) (fun h23=>?_))
  ·refine .skip (.seq (.block (.seq (.rgo [] ?_ ?_ (h:=by simp only[go_sem,seval,ts_ (show k<l.length by simpa using h23),cz_];rfl)))))
   ·simp at h23;simp;omega
   refine .seq (.seq (.rg [] ?_))
   refine .cB (fun h28=>?_) (fun h28=>?_)
   ·refine .exit (.rg [] ?_)
    refine Exists.intro (k+1) ⟨?_,?_,?_⟩
    ·have hk:k<l.length:=(by simpa using h23);have e:=g8_ hk (by simpa using h28);exact⟨by omega,by rw[e];exact hI.2.1,hI.2.2⟩
    ·simp at h23;omega
    refine Can.wk ?_ ?_
    ·first|trivial|((have hk:k<l.length:=(by simpa using h23));(have e:=g8_ hk (by simpa using h28));rw[e,aj_ (by omega) (by omega)];simp)
    ·first|trivial|((have hk:k<l.length:=(by simpa using h23));(have e:=g8_ hk (by simpa using h28));rw[e];simp)
   ·refine .skip (.seq (.rgo [kh_ (p0_ 5 (l.getD k B0).expr (a0_ (l.take k)).names (a0_ (l.take k)).nums (F1 k hI.2.2 (by simpa using h23) (by simpa using h28)) (ea_ hI.1 (dd_ hI.2.2).2.1).1 (by have:=(ea_ hI.1 (dd_ hI.2.2).2.1).2.1;omega))] ?_ ?_))
    ·(first|(simp[T1_,al_,as_,af_];done))
    refine .seq (.rg [] ?_)
    refine .seqJ (fun q:Int × Bool=>⟨[.sl false (bLR l),.no,.no,.no,.ow 20 1 0 (a0_ (l.take k)).names.length,.ow 21 1 0 (a0_ (l.take k)).nums.length,.ow 22 1 0 (a0_ (l.take k)).said.length,.no,.pt 18 10 0 0,.i .i64 (rk (l.getD k B0).expr (a0_ (l.take k)).names (a0_ (l.take k)).nums).1,.b q.2,.i .i64 q.1,.no,.no,.no,.no,.no,.no,.no,.no,.sl false (bLR l),.i .i64 l.length,.i .i64 k,.no,.no,.no,.no,.no,.no,.no,.no,.no,.no,.no,.no,.no,.no,.no,.no,.no,.no,.no,.no,.no,.no,.no,.no,.no,.no,.no,.no,.no,.no,.no,.no,.no,.no,.no,.no,.no,.no,.no,.no,.no,.no,.no,.no,.no,.no,.no,.no,.no,.no,.no,.no,.no,.no,.no,.no,.no,.no,.no],ak_ [(18,⟨147,10,[bC (l.getD k B0)]⟩),(20,⟨9,1,an_ (a0_ (l.take k)).names⟩),(21,⟨3,1,inR (a0_ (l.take k)).nums⟩),(22,⟨3,1,inR (a0_ (l.take k)).said⟩)],us [20,21,22,18]⟩) (fun q:Int × Bool=>q=((dc_ (l.getD k B0) (a0_ (l.take k)).names (a0_ (l.take k)).nums).2.1,(dc_ (l.getD k B0) (a0_ (l.take k)).names (a0_ (l.take k)).nums).2.2)) ?_ (fun q hJ=>?_)
    ·refine .seq (.rg [] ?_)
     refine .cB (fun h43=>?_) (fun h43=>?_)
     ·refine .rgo [kh_ (p0_ 5 (l.getD k B0).thn (a0_ (l.take k)).names (a0_ (l.take k)).nums (F2 k hI.2.2 (by simpa using h23) (by simp at h43;exact h43.2)) (ea_ hI.1 (dd_ hI.2.2).2.1).1 (by have:=(ea_ hI.1 (dd_ hI.2.2).2.1).2.1;omega))] ?_ ?_
      ·(first|(simp[T1_,al_,as_,af_];done))
      refine Exists.intro (((rk (l.getD k B0).thn (a0_ (l.take k)).names (a0_ (l.take k)).nums).1,(rk (l.getD k B0).thn (a0_ (l.take k)).names (a0_ (l.take k)).nums).2)) ⟨?_,?_⟩
      ·unfold dc_;first|(rw[if_pos (by simp at h43 ⊢;exact h43)];done)|(rw[if_neg (by simp at h43 ⊢;exact h43)];done)
      exact Can.wl
     ·refine .skip ?_
      refine Exists.intro (((rk (l.getD k B0).expr (a0_ (l.take k)).names (a0_ (l.take k)).nums).1,(rk (l.getD k B0).expr (a0_ (l.take k)).names (a0_ (l.take k)).nums).2)) ⟨?_,?_⟩
      ·unfold dc_;first|(rw[if_pos (by simp at h43 ⊢;exact h43)];done)|(rw[if_neg (by simp at h43 ⊢;exact h43)];done)
      exact Can.wl
    refine .seq (.seq (.rg [] ?_))
    refine .cB (fun h53=>?_) (fun h53=>?_)
    ·refine .seq (.rg [bf_ [22] [] (m8_ (a0_ (l.take k)).said (a0_ (l.take k)).said.length rfl (by have:=(ea_ hI.1 (dd_ hI.2.2).2.1).2.2;omega))] ?_)
     refine .ret ⟨.inr rfl,?_⟩
     exact Out.mm (by simp only[Tryz.results157];rfl) (by simp only[ag_,rns,rn,go_sem,seval]<;>(rw[mn_ hI.2.2 (by simpa using h23) hI.2.1 (by simpa using h28) (by rw[hJ]at h53;simpa using h53)];try simp)) (by simp only[at_,go_sem,seval]<;>(rw[mn_ hI.2.2 (by simpa using h23) hI.2.1 (by simpa using h28) (by rw[hJ]at h53;simpa using h53)];(try simp[be_,ao_])))
    ·refine .skip (.seq (.rg [] ?_))
     refine .cB (fun h58=>?_) (fun h58=>?_)
     ·refine .rgo [] ?_ ?_
      ·have:=ea_ hI.1 (dd_ hI.2.2).2.1;simp;omega
      refine .rg [] ?_
      refine Exists.intro (k+1) ⟨?_,?_,?_⟩
      ·have hk:k<l.length:=(by simpa using h23);have e:=ja_ hk hI.2.1 (by simpa using h58) (by rw[hJ]at h53;simpa using h53);exact⟨by omega,by rw[e];exact hI.2.1,hI.2.2⟩
      ·simp at h23;omega
      refine Can.trans (Can.sX 73 20) ?_
      refine Can.trans (Can.sX 77 21) ?_
      refine Can.wk ?_ ?_
      ·first|trivial|((have hk:k<l.length:=(by simpa using h23));(have e:=ja_ hk hI.2.1 (by simpa using h58) (by rw[hJ]at h53;simpa using h53));rw[e,aj_ (by omega) (by omega)];simp)
      ·first|trivial|((have hk:k<l.length:=(by simpa using h23));(have e:=ja_ hk hI.2.1 (by simpa using h58) (by rw[hJ]at h53;simpa using h53));rw[e];simp[k7_,c2_])
     ·refine .seq (.rg [] ?_)
      refine .cB (fun h74=>?_) (fun h74=>?_)
      ·refine .rgo [] ?_ ?_
       ·have:=ea_ hI.1 (dd_ hI.2.2).2.1;simp;omega
       refine .rg [] ?_
       refine Exists.intro (k+1) ⟨?_,?_,?_⟩
       ·have hk:k<l.length:=(by simpa using h23);have e:=fs_ hk hI.2.1 (by simpa using h28) (by simpa using h58) (by rw[hJ]at h53;simpa using h53) (by simp at h74;exact h74);exact⟨by omega,by rw[e];exact hI.2.1,hI.2.2⟩
       ·simp at h23;omega
       refine Can.trans (Can.sX 88 22) ?_
       refine Can.wk ?_ ?_
       ·first|trivial|((have hk:k<l.length:=(by simpa using h23));(have e:=fs_ hk hI.2.1 (by simpa using h28) (by simpa using h58) (by rw[hJ]at h53;simpa using h53) (by simp at h74;exact h74));rw[e,aj_ (by omega) (by omega)];simp)
       ·first|trivial|((have hk:k<l.length:=(by simpa using h23));(have e:=fs_ hk hI.2.1 (by simpa using h28) (by simpa using h58) (by rw[hJ]at h53;simpa using h53) (by simp at h74;exact h74));rw[e];simp[c2_,hJ])
      ·refine .skip (.rg [] ?_)
       refine Exists.intro (k+1) ⟨?_,?_,?_⟩
       ·have hk:k<l.length:=(by simpa using h23);have e:=hg_ hk hI.2.1 (by simpa using h28) (by simpa using h58) (by rw[hJ]at h53;simpa using h53) (by simp at h74;exact h74.1) (by simp at h74;exact h74.2);exact⟨by omega,by rw[e];exact hI.2.1,hI.2.2⟩
       ·simp at h23;omega
       refine Can.wk ?_ ?_
       ·first|trivial|((have hk:k<l.length:=(by simpa using h23));(have e:=hg_ hk hI.2.1 (by simpa using h28) (by simpa using h58) (by rw[hJ]at h53;simpa using h53) (by simp at h74;exact h74.1) (by simp at h74;exact h74.2));rw[e,aj_ (by omega) (by omega)];simp)
       ·first|trivial|((have hk:k<l.length:=(by simpa using h23));(have e:=hg_ hk hI.2.1 (by simpa using h28) (by simpa using h58) (by rw[hJ]at h53;simpa using h53) (by simp at h74;exact h74.1) (by simp at h74;exact h74.2));rw[e];simp)
  ·refine .exit (.seq (.rg [bf_ [22] [] (m8_ (a0_ (l.take k)).said (a0_ (l.take k)).said.length rfl (by have:=(ea_ hI.1 (dd_ hI.2.2).2.1).2.2;omega))] ?_))
   refine .ret ⟨.inr rfl,?_⟩
   exact Out.mm (by simp only[Tryz.results157];rfl) (by simp only[ag_,rns,rn,go_sem,seval]<;>(rw[oy_ hI.2.2 (by simpa using h23) hI.2.1];try simp)) (by simp only[at_,go_sem,seval]<;>(rw[oy_ hI.2.2 (by simpa using h23) hI.2.1];(try simp[be_,ao_])))
end
section
abbrev ofS (s:Sl):Bl:=⟨s.kind,s.name,s.expr,s.thn⟩
theorem o5_ {s:Sl} (h:sok s=true) (k:¬s.kind=0):eok s.expr=true:=by
 have h0:=(o4_ h).1
 unfold ca_ at h0
 by_cases k1:s.kind=1
 ·simp[k1]at h0;exact h0.1.2
 by_cases k2:s.kind=2
 ·simp[k2]at h0;exact h0.1.2
 by_cases k3:s.kind=3
 ·simp[k3]at h0;exact h0.1.2
 ·simp[k,k1,k2,k3]at h0
theorem tp_ {s:Sl} (h:sok s=true) (k:s.kind=3):eok s.thn=true:=by
 have h0:=(o4_ h).1
 unfold ca_ at h0
 simp[k]at h0;exact h0.2
theorem adb_ {s:Sl} (h:sok s=true):s.kind=0∨s.kind=1∨s.kind=2∨s.kind=3:=by
 have h0:=(o4_ h).1
 unfold ca_ at h0
 by_cases k0:s.kind=0
 ·exact .inl k0
 by_cases k1:s.kind=1
 ·exact .inr (.inl k1)
 by_cases k2:s.kind=2
 ·exact .inr (.inr (.inl k2))
 by_cases k3:s.kind=3
 ·exact .inr (.inr (.inr k3))
 ·simp[k0,k1,k2,k3]at h0
def hf_ (l:List Sl):List Int × Bool:=if pok l then((a0_ (l.map ofS)).said,(a0_ (l.map ofS)).ok)else([],false)
theorem atp_ {l:List Sl} (h:pok l=true):l.all sok=true:=by simp only[pok,T5_]at h;exact h.2
theorem p7_ {l:List Sl} (h:pok l=false):hf_ l=([],false):=by unfold hf_;rw[h];rfl
theorem mp_ {l:List Sl} {k:Nat} (hl:pok l=true) (hk:k<l.length) (h:(a0_ ((l.map ofS).take k)).ok=true) (h0:¬(l.getD k S0).kind=0) (h2:(dc_ (ofS (l.getD k S0)) (a0_ ((l.map ofS).take k)).names (a0_ ((l.map ofS).take k)).nums).2.2=false):hf_ l=((a0_ ((l.map ofS).take k)).said,false):=by
 have hk':k<(l.map ofS).length:=by rw[List.length_map];exact hk
 have hg:(l.map ofS).getD k B0=ofS (l.getD k S0):=by simp[T8_,T6_ hk]
 have e:=hi_ hk'
 rw[hg,xa_ h h0 h2]at e
 have e2:=xy_ (l:=l.map ofS) (k:=k+1) (by omega) (by rw[e])
 unfold hf_;rw[if_pos hl,e2,e]
theorem p3_ {l:List Sl} {k:Nat} (hl:pok l=true) (hk:l.length≤k) (h:(a0_ ((l.map ofS).take k)).ok=true):hf_ l=((a0_ ((l.map ofS).take k)).said,true):=by
 rw[T1_ (by rw[List.length_map];exact hk)]at h ⊢
 unfold hf_;rw[if_pos hl,h]
theorem ei_ {l:List Sl} {k:Nat} (hk:k<l.length):(l.map ofS).getD k B0=ofS (l.getD k S0):=by simp[T8_,T6_ hk]
def i7_ (s:Str):List Int × Bool:=if (bt_ s).all (fun w=>(e2_ w).isSome)then j3_ ((bt_ s).map fun w=>(e2_ w).getD B0)else([],false)
theorem yn_ {s:Sl} (h:sok s=true):emT s=sp_ (bof s):=by unfold emT sp_;rw[if_pos h]
end
section
abbrev Sg:=Int × Int × Int × Int
def sgC (s:Sg):List V:=[.i .i64 s.1,.i .i64 s.2.1,.i .i64 s.2.2.1,.i .i64 s.2.2.2]
def sgR (l:List Sg):List (List V):=l.map sgC
def G0:Sg:=(0,0,0,0)
theorem b9_ (l:List Sg):(sgR l).length=l.length:=by simp[sgR]
theorem cg_:∀l:List Sg,bh_ (sgR l)=true
 |[]=>rfl
 |_::r=>by show(bv_ [_,_,_,_]&&bh_ (sgR r))=true;rw[cg_ r];rfl
theorem ajj_ (a b:List Sg):sgR (a++b)=sgR a++sgR b:=by simp[sgR]
theorem ate_ {l:List Sg} {k:Nat} (h:k<l.length):(sgR l).getD k []=sgC (l.getD k G0):=by
 simp[sgR,T8_,T6_ h]
theorem e4_ (l:List Sg):(∀r,r∈sgR l→r.length=4)=True:=eq_true fun r hr=>by obtain⟨t,_,rfl⟩:=List.mem_map.1 hr;rfl
def T0k:Tk:=⟨0,[],0⟩
def sg1 (line:Int) (x:Tk × Int):Option Sg:=if 0≤x.2 then some (line,x.1.col,line,x.2)else none
def sgs (line:Int) (ts:List Tk) (fs:List Int):List Sg:=(ts.zip fs).filterMap (sg1 line)
def sgK (line:Int) (ts:List Tk) (fs:List Int) (k:Nat):List Sg:=((ts.zip fs).take k).filterMap (sg1 line)
theorem t2_ (line:Int) (ts:List Tk) (fs:List Int):sgK line ts fs 0=[]:=rfl
theorem gg_ {line:Int} {ts:List Tk} {fs:List Int} {k:Nat} (h1:k<ts.length) (h2:k<fs.length):sgK line ts fs (k+1)=sgK line ts fs k++(if 0≤fs.getD k 0 then [(line,(ts.getD k T0k).col,line,fs.getD k 0)]else []):=by
 have hz:k<(ts.zip fs).length:=by rw[List.length_zip];omega
 unfold sgK
 rw[List.take_add_one,T6_ hz,List.filterMap_append]
 congr 1
 rw[List.getElem_zip,T8_,T6_ h2,T8_,T6_ h1]
 simp only[Option.toList,Option.getD_some,List.filterMap_cons,List.filterMap_nil,sg1]
 split<;>simp_all
theorem ajq_ {line:Int} {ts:List Tk} {fs:List Int} {k:Nat} (h:ts.length≤k∨fs.length≤k):sgK line ts fs k=sgs line ts fs:=by
 unfold sgK sgs
 rw[T1_]
 rw[List.length_zip];omega
theorem gj_ (line:Int) (ts:List Tk) (fs:List Int) (k:Nat):(sgK line ts fs k).length≤k:=by
 unfold sgK
 have:=List.length_filterMap_le (sg1 line) ((ts.zip fs).take k)
 rw[List.length_take]at this;omega
theorem fw_ (line:Int) (ts:List Tk) (fs:List Int):(sgs line ts fs).length≤fs.length:=by
 unfold sgs
 have:=List.length_filterMap_le (sg1 line) (ts.zip fs)
 rw[List.length_zip]at this;omega
def sgS (i:Nat) (s:Sl):List Sg:=sgs i ((a1_ (emT s)).getD []) (emF s)
def sgN (l:List Sl):Nat→List Sg
 |0=>[]
 |k+1=>sgN l k++sgS k (l.getD k S0)
def sgP (l:List Sl):List Sg:=if pok l then sgN l l.length else []
theorem atk_ {s:Sl} (h:sok s=true):a1_ (emT s)=some (tkOf 0 (bw (bof s))):=by rw[yn_ h];exact q8_ (aa4_ h)
theorem ao8_ (c:Int) (l:List Str):(tkOf c l).length=l.length:=by rw[←List.length_map (f:=Tk.s),rt_]
theorem aba_ {s:Sl} (h:sok s=true):(emF s).length=(bw (bof s)).length:=by
 have q:=ik_ (dw_ h)
 unfold emF;rw[if_pos h,←aac_ (dw_ h),g3_]
 rw[←q.2,List.length_map]
theorem aej_ {s:Sl} (h:sok s=true):((a1_ (emT s)).getD []).length=(emF s).length:=by
 rw[atk_ h,Option.getD_some,ao8_,aba_ h]
theorem aau_ {s:Sl} (h:sok s=true):(emF s).length≤76:=by
 rw[aba_ h];exact(nh_ (i6_ (dw_ h))).1
theorem atu_ {i:Nat} {s:Sl} (h:sok s=true):(sgS i s).length≤76:=by
 have:=fw_ i ((a1_ (emT s)).getD []) (emF s)
 have:=aau_ h
 unfold sgS;omega
theorem aiu_ {l:List Sl} (h:∀k,k<l.length→sok (l.getD k S0)=true):∀k,k≤l.length→(sgN l k).length≤76 * k
 |0,_=>by simp[sgN]
 |k+1,hk=>by
  have h1:=aiu_ h k (by omega)
  have h2:=atu_ (i:=k) (h k (by omega))
  rw[sgN,T2_];omega
theorem agy_ {l:List Sl} (h:pok l=true) {k:Nat} (hk:k≤l.length):(sgN l k).length≤1216:=by
 have h0:=a3_ h
 have:=aiu_ h0.2.2 k hk
 omega
theorem aw9_ (l:List Sl):(sgP l).length≤1216:=by
 unfold sgP;split
 ·rename_i h;exact agy_ h (Nat.le_refl _)
 ·simp
theorem afo_:sok S0=true:=by decide
theorem emF_S0:emF S0=[]:=List.eq_nil_of_length_eq_zero (by rw[aba_ afo_];decide)
theorem aym_ (i:Nat):sgS i S0=[]:=by unfold sgS sgs;rw[emF_S0];simp
end
section
def r1_ (l:List Sg) (k:Nat):Bool:=
 decide (0≤(l.getD k G0).1)&&decide ((l.getD k G0).1≤15)&&(decide (0≤(l.getD k G0).2.1)&&decide ((l.getD k G0).2.1≤119))&&(decide (0≤(l.getD k G0).2.2.1)&&decide ((l.getD k G0).2.2.1≤15)&&(decide (0≤(l.getD k G0).2.2.2)&&decide ((l.getD k G0).2.2.2≤119)))&&
  (decide (k=0)||(decide ((l.getD (k - 1) G0).1<(l.getD k G0).1)||decide ((l.getD (k - 1) G0).1=(l.getD k G0).1)&&decide ((l.getD (k - 1) G0).2.1<(l.getD k G0).2.1)))
def hu_ (l:List Sg):Bool:=(List.range l.length).all (r1_ l)&&decide (l.length≤1280)
end
section
def lc_ (l:List Sg) (L c:Int):Nat→Option Sg
 |0=>none
 |k+1=>if (l.getD k G0).1=L∧(l.getD k G0).2.1≤c then some (l.getD k G0)else lc_ l L c k
def o2_ (l:List Sg) (L c:Int):Option Sg:=lc_ l L c l.length
theorem xt_ {l:List Sg} {L c:Int} {i:Nat} (hc:(l.getD i G0).1=L∧(l.getD i G0).2.1≤c):∀m,i<m→(∀j,i<j→j<m→¬((l.getD j G0).1=L∧(l.getD j G0).2.1≤c))→lc_ l L c m=some (l.getD i G0)
 |0,h,_=>by omega
 |m+1,h,hn=>by
  rw[lc_]
  by_cases e:i=m
  ·subst e;rw[if_pos hc]
  ·rw[if_neg (hn m (by omega) (by omega))]
   exact xt_ hc m (by omega) fun j h1 h2=>hn j h1 (by omega)
def g2_ (l:List Sg) (L c:Int):Option Sg:=if hu_ l then o2_ l L c else none
def eh_ (L c:Int) (x:Sg):Bool:=decide (x.2.2.1=L)&&decide (x.2.2.2=c)
def dl_ (l:List Sg) (L c:Int):List Sg:=if hu_ l then l.filter (eh_ L c)else []
end
section
def lets:Str:=[97,98,99,100,101,102,103,104,105,106,107,108,109,110,111,112,65,66,67,68,69,70,71,72,73,74,75,76,77,78,79,80]
theorem v6_:lets.length=32:=rfl
def m9_:Nat→Nat→Str
 |0,_=>[]
 |f+1,v=>if v<16 then [lets.getD v 0]else lets.getD (v % 16+16) 0::m9_ f (v / 16)
theorem ah2_ {f v:Nat} (h:v<16):m9_ (f+1) v=[lets.getD v 0]:=by rw[m9_,if_pos h]
theorem ajy_ {f v:Nat} (h:¬v<16):m9_ (f+1) v=lets.getD (v % 16+16) 0::m9_ f (v / 16):=by rw[m9_,if_neg h]
theorem ze_:∀f v,(m9_ f v).length≤f
 |0,_=>Nat.le_refl _
 |f+1,v=>by
  rw[m9_];split
  ·simp
  ·simpa using ze_ f (v / 16)
def f1_ (n:Int):Bool:=decide (-1000000≤n)&&decide (n≤1000000)
def zig (n:Int):Nat:=if n<0 then(-2 * n+1).toNat else(2 * n).toNat
theorem wm_ {n:Int} (h:f1_ n=true):zig n≤2000001:=by
 simp only[f1_,T5_,T3_]at h
 unfold zig;split<;>omega
def n2_ (n:Int):Str:=if f1_ n then m9_ 8 (zig n)else []
theorem fx_ (n:Int):(n2_ n).length≤8:=by
 unfold n2_;split
 ·exact ze_ _ _
 ·simp
def lf_ (l:List Int):Str:=if l.all f1_ then(l.map n2_).flatten else []
theorem v1_ (l:List Int):(lf_ l).length≤8 * l.length:=by
 have h:∀l:List Int,((l.map n2_).flatten).length≤8 * l.length:=fun l=>by
  induction l with
  |nil=>simp
  |cons n l ih=>have:=fx_ n;simp only[List.map_cons,List.flatten_cons,T2_,T7_];omega
 unfold lf_;split
 ·exact h l
 ·simp
def iv_ (l:List Int) (k:Nat):Str:=((l.take k).map n2_).flatten
theorem xn_ {l:List Int} {k:Nat} (h:k<l.length):iv_ l (k+1)=iv_ l k++n2_ (l.getD k 0):=by
 unfold iv_
 rw[List.take_add_one,T6_ h,T8_,T6_ h,List.map_append,List.flatten_append]
 simp only[Option.toList_some,List.map_cons,List.map_nil,List.flatten_cons,List.flatten_nil,List.append_nil,Option.getD_some]
theorem ey_ (l:List Int) (k:Nat):(iv_ l k).length≤8 * l.length:=by
 have h:∀l:List Int,((l.map n2_).flatten).length≤8 * l.length:=fun l=>by
  induction l with
  |nil=>simp
  |cons n l ih=>have:=fx_ n;simp only[List.map_cons,List.flatten_cons,T2_,T7_];omega
 have:=h (l.take k)
 rw[List.length_take]at this
 unfold iv_;omega
theorem yc_ {l:List Int} {k:Nat} (h:l.all f1_=true) (hk:l.length≤k):iv_ l k=lf_ l:=by
 unfold iv_ lf_;rw[if_pos h,T1_ hk]
theorem yw_ {l:List Int} {k:Nat} (hk:k<l.length) (h:f1_ (l.getD k 0)=false):lf_ l=[]:=by
 unfold lf_
 rw[if_neg]
 intro q
 have:=List.all_eq_true.1 q (l.getD k 0) (by rw[T8_,T6_ hk];exact List.getElem_mem hk)
 rw[h]at this;cases this
theorem acl_ {l:List Int} (h:∀k,k<l.length→f1_ (l.getD k 0)=true):l.all f1_=true:=by
 refine List.all_eq_true.2 fun n hn=>?_
 obtain⟨k,hk,rfl⟩:=List.getElem_of_mem hn
 have:=h k hk
 rwa [T8_,T6_ hk]at this
/-! the text of a map -/
def ahd (l:List Sg) (k:Nat):Sg:=if k=0 then(0,0,0,0)else l.getD (k - 1) G0
theorem z5_ (l:List Sg) (k:Nat):ahd l (k+1)=l.getD k G0:=by unfold ahd;simp
def seg3 (l:List Sg) (k:Nat):List Int:=
 [(l.getD k G0).2.1 - (if (ahd l k).1<(l.getD k G0).1 then 0 else(ahd l k).2.1),(l.getD k G0).2.2.1 - (ahd l k).2.2.1,(l.getD k G0).2.2.2 - (ahd l k).2.2.2]
def segT (l:List Sg) (k:Nat):Str:=
 (if k≠0∧(l.getD k G0).1=(ahd l k).1 then [44]else [])++(List.replicate ((l.getD k G0).1 - (ahd l k).1).toNat 61++lf_ (seg3 l k))
def ih_ (l:List Sg):Nat→Str
 |0=>[]
 |k+1=>ih_ l k++segT l k
def mapT (l:List Sg):Str:=if hu_ l then ih_ l l.length else []
theorem asb_ (l:List Sg) (k:Nat):((segT l k).length:Int)≤25+((l.getD k G0).1 - (ahd l k).1).toNat:=by
 have:=v1_ (seg3 l k)
 have e:(seg3 l k).length=3:=rfl
 unfold segT
 simp only[T2_,List.length_replicate]
 split<;>simp<;>omega
end
section
set_option maxRecDepth 100000
set_option maxHeartbeats 4000000
theorem t16 (v:Nat):(v:Int).tmod 16=((v % 16:Nat):Int):=by rw[Int.tmod_eq_emod_of_nonneg (by omega)];rfl
theorem d16 (v:Nat):(v:Int).tdiv 16=((v / 16:Nat):Int):=by rw[Int.tdiv_eq_ediv_of_nonneg (by omega)];rfl
theorem a0s_ {d:Nat} (h:d≤31):(lets.drop d).take 1=[lets.getD d 0]:=by
 rw[List.drop_eq_getElem_cons (by rw[v6_];omega),T8_,T6_ (by rw[v6_];omega)];rfl
theorem adg_:ACall En 316 [] [] [.s lets] []:=by
 refine aa_ [] Tryz.func316 Tryz.ntmps316 fun C=>?_
 refine .seq (.rg [] ?_)
 refine .seq (.rg [] ?_)
 refine .ret ⟨.inr rfl,?_⟩
 exact Out.pl (by simp only[Tryz.results316];rfl) (by simp only[ag_,go_sem,seval]<;>(rfl))
theorem ry_ (d:Nat) (h:d≤31):ACall En 310 [.i .i64 d] [] [.s [lets.getD d 0]] []:=by
 refine aa_ [] Tryz.func310 Tryz.ntmps310 fun C=>?_
 refine .seq (.rg [] ?_)
 refine .seq (.seq (.rg [] ?_))
 refine .cB (fun h8=>?_) (fun h8=>?_)
 ·simp at h8;omega
 ·refine .skip (.seq (.rgo [ab_ adg_] ?_ ?_))
  ·rw[aj_ (by omega) (by omega)];simp only[v6_];and_intros<;>first|omega|trivial|(simp;done)
  refine .ret ⟨.inr rfl,?_⟩
  exact Out.pl (by simp only[Tryz.results310];rfl) (by simp only[ag_,go_sem,seval]<;>(rw[aj_ (by omega) (by omega)];simp only[List.cons.injEq,V.s.injEq,and_true];rw[show((d:Int)+1).toNat=d+1 by omega,List.drop_take,show d+1 - d=1 by omega];exact a0s_ h))
theorem nl_ (f v:Nat) (hf:f≤8) (hv:v≤2000001) (ih:16≤v→ACall En 285 [.i .i64 (v / 16:Nat)] [] [.s (m9_ f (v / 16))] []):ACall En 285 [.i .i64 v] [] [.s (m9_ (f+1) v)] []:=by
 refine aa_ [] Tryz.func285 Tryz.ntmps285 fun C=>?_
 refine .seq (.rg [] ?_)
 refine .seq (.seq (.rg [] ?_))
 refine .cB (fun h4=>?_) (fun h4=>?_)
 ·refine .seq (.rgo [a4_ (v<16) (fun h=>ry_ v (by omega))] ?_ ?_)
  ·simp at h4;omega
  refine .ret ⟨.inr rfl,?_⟩
  exact Out.pl (by simp only[Tryz.results285];rfl) (by simp only[ag_,go_sem,seval]<;>(simp at h4;rw[ah2_ (by omega)]))
 ·refine .skip (.seq (.rgo [ab_ (ry_ (v % 16+16) (by omega)),a4_ (16≤v) ih] ?_ ?_))
  ·simp at h4;rw[t16,d16,aj_ (by omega) (by omega),aj_ (by omega) (by omega)];have:=ze_ f (v / 16);and_intros<;>first|omega|trivial|(simp only[T7_,List.length_nil];omega)
  refine .ret ⟨.inr rfl,?_⟩
  exact Out.pl (by simp only[Tryz.results285];rfl) (by simp only[ag_,go_sem,seval]<;>(simp at h4;rw[ajy_ (by omega)]))
theorem nv_:∀f v:Nat,f≤8→v<16 ^ (f+1)→v≤2000001→ACall En 285 [.i .i64 v] [] [.s (m9_ (f+1) v)] []
 |0,v,_,h,h2=>nl_ 0 v (by omega) h2 fun h3=>absurd h (by omega)
 |f+1,v,hf,h,h2=>nl_ (f+1) v hf h2 fun _=>nv_ f (v / 16) (by omega) (by rw[Nat.pow_succ]at h;omega) (by omega)
theorem arw_ (n:Int):ACall En 240 [.i .i64 n] [] [.b (f1_ n)] []:=by
 refine aa_ [] Tryz.func240 Tryz.ntmps240 fun C=>?_
 refine .seq (.rg [] ?_)
 refine .seq (.rg [] ?_)
 refine .ret ⟨.inr rfl,?_⟩
 exact Out.pl (by simp only[Tryz.results240];rfl) (by simp only[ag_,go_sem,seval]<;>(simp[f1_]))
theorem ahh_ (n:Int):ACall En 241 [.i .i64 n] [] [.s (n2_ n)] []:=by
 refine aa_ [] Tryz.func241 Tryz.ntmps241 fun C=>?_
 refine .seq (.rg [] ?_)
 refine .seq (.seq (.rg [ab_ (arw_ n)] ?_))
 refine .cB (fun h5=>?_) (fun h5=>?_)
 ·refine .seq (.rg [] ?_)
  refine .ret ⟨.inr rfl,?_⟩
  exact Out.pl (by simp only[Tryz.results241];rfl) (by simp only[ag_,go_sem,seval]<;>(simp at h5;simp[n2_,h5]))
 ·refine .skip (.seq (.seq (.rg [] ?_)))
  refine .cB (fun h7=>?_) (fun h7=>?_)
  ·refine .seq (.rgo [a4_ (f1_ n=true∧n<0) (fun h=>nv_ 7 (zig n) (by decide) (by have:=wm_ h.1;omega) (wm_ h.1))] ?_ ?_)
   ·simp at h5 h7;have hz:=h5;simp only[f1_,T5_,T3_]at hz;rw[aj_ (n:= -2 * n) (by omega) (by omega),aj_ (by omega) (by omega)];exact⟨by unfold zig;rw[if_pos h7];omega,h5,h7⟩
   refine .ret ⟨.inr rfl,?_⟩
   exact Out.pl (by simp only[Tryz.results241];rfl) (by simp only[ag_,go_sem,seval]<;>(simp at h5;simp[n2_,h5]))
  ·refine .skip (.seq (.rgo [a4_ (f1_ n=true∧¬n<0) (fun h=>nv_ 7 (zig n) (by decide) (by have:=wm_ h.1;omega) (wm_ h.1))] ?_ ?_))
   ·simp at h5 h7;have hz:=h5;simp only[f1_,T5_,T3_]at hz;rw[aj_ (by omega) (by omega)];exact⟨by unfold zig;rw[if_neg (by omega)];omega,h5,by omega⟩
   refine .ret ⟨.inr rfl,?_⟩
   exact Out.pl (by simp only[Tryz.results241];rfl) (by simp only[ag_,go_sem,seval]<;>(simp at h5;simp[n2_,h5]))
attribute [local go_sem] as_ ao_ in
theorem adc_ (l:List Int) (hl:l.length≤1000000):ACall En 182 [.sl false (inR l)] [] [.s (lf_ l)] []:=by
 refine aa_ [] Tryz.func182 Tryz.ntmps182 fun C=>?_
 refine .seq (.rgo [] ?_ ?_)
 ·(first|trivial|(simp;done)|(simp only[T3_]at h8;have:=fx_ (l.getD k 0);have:=ey_ l k;and_intros<;>omega))
 refine .seq (.rgo [] ?_ ?_)
 ·(first|trivial|(simp;done)|(simp only[T3_]at h8;have:=fx_ (l.getD k 0);have:=ey_ l k;and_intros<;>omega))
 refine .seq (.seq (.rgo [] ?_ ?_))
 ·(first|trivial|(simp;done)|(simp only[T3_]at h8;have:=fx_ (l.getD k 0);have:=ey_ l k;and_intros<;>omega))
 refine .block (.loopK (fun k:Nat=>⟨[.sl false (inR l),.no,.no,.s (iv_ l k),.i .i64 k,.no,.no,.no,.no,.no,.no,.no,.no,.no,.no,.no,.no,.no,.no,.no,.no,.no,.no,.no,.no],ak_ [],us []⟩) (fun k:Nat=>k≤l.length∧∀j,j<k→f1_ (l.getD j 0)=true) (fun k:Nat=>l.length - k) (0) ?_ ?_ (fun k hI=>?_))
 ·exact⟨Nat.zero_le _,fun j hj=>absurd hj (by omega)⟩
 ·refine Can.wh ?_;first|trivial|((try simp[iv_]))
 refine .seq (.seq (.rgo [] ?_ ?_))
 ·(first|trivial|(simp;done)|(simp only[T3_]at h8;have:=fx_ (l.getD k 0);have:=ey_ l k;and_intros<;>omega))
 refine .cB (fun h8=>?_) (fun h8=>?_)
 ·refine .skip (.seq (.block (.seq (.seq (.rgo [ab_ (arw_ (l.getD k 0))] ?_ ?_ (h:=by simp only[go_sem,seval,c8_ (show k<l.length by simpa using h8)];rfl))))))
  ·(first|trivial|(simp;done)|(simp only[T3_]at h8;have:=fx_ (l.getD k 0);have:=ey_ l k;and_intros<;>omega))
  refine .cB (fun h16=>?_) (fun h16=>?_)
  ·refine .seq (.rgo [] ?_ ?_)
   ·(first|trivial|(simp;done)|(simp only[T3_]at h8;have:=fx_ (l.getD k 0);have:=ey_ l k;and_intros<;>omega))
   refine .ret ⟨.inr rfl,?_⟩
   exact Out.pl (by simp only[Tryz.results182];rfl) (by simp only[ag_,go_sem,seval]<;>(simp only[T3_]at h8;rw[yw_ (k:=k) (by omega) (by simpa using h16)]))
  ·refine .skip (.rgo [ab_ (ahh_ (l.getD k 0))] ?_ ?_ (h:=by simp only[go_sem,seval,c8_ (show k<l.length by simpa using h8)];rfl))
   ·(first|trivial|(simp;done)|(simp only[T3_]at h8;have:=fx_ (l.getD k 0);have:=ey_ l k;and_intros<;>omega))
   refine .rgo [] ?_ ?_
   ·(first|trivial|(simp;done)|(simp only[T3_]at h8;have:=fx_ (l.getD k 0);have:=ey_ l k;and_intros<;>omega))
   refine Exists.intro (k+1) ⟨?_,?_,?_⟩
   ·simp only[T3_]at h8;exact⟨by omega,fun j hj=>by by_cases e:j=k;(subst e;simpa using h16);exact hI.2 j (by omega)⟩
   ·simp at h8;omega
   refine Can.wh ?_;first|trivial|(simp only[T3_]at h8;rw[aj_ (by omega) (by omega),xn_ (by omega)];(try simp))
 ·refine .exit (.seq (.rgo [] ?_ ?_))
  ·(first|trivial|(simp;done)|(simp only[T3_]at h8;have:=fx_ (l.getD k 0);have:=ey_ l k;and_intros<;>omega))
  refine .ret ⟨.inr rfl,?_⟩
  exact Out.pl (by simp only[Tryz.results182];rfl) (by simp only[ag_,go_sem,seval]<;>(simp only[T4_]at h8;rw[yc_ (acl_ fun j hj=>hI.2 j (by omega)) (by omega)]))
end
section
open Go.RowKit
attribute [go_sem high] azo_ a1s_ ay9_ a16_ ayd_ ayi_ aw3_ axw_ axq_ a1c_ a09_ ary_ my_ aqz_ aex_ ake_ a0x_ a0f_ awz_
attribute [go_sem] jb_ fj_ ptrO av9_ toUO amx_ xp_ aq7_ art_ apk_ awp_ ano_ ptrV eqB
theorem vy_ {E:Env} {f:FuncId} {fn:Func} {c:Code} {vs rs σ0:List V} {L0 Lr:List Blk} {n:Nat} {M0:List (Nat × Blk)} (η:List Nat) (k:Nat) (hf:E.P.funcs[f]? = some fn) (hn:fn.ntmps=n) (h:∀C,AWp E C c (fun e s=>(e = .normal∨e = .ret)∧Out E fn k rs Lr η s) ⟨σ0,ak_ M0,us []⟩) (hb:fn.body=some c:=by rfl) (hname:(fn.name== "runtime.NumGoroutine")=false:=by rfl) (hk:L0.length≤10:=by simp) (hk2:k≤L0.length:=by simp)
  (hσ:vs++List.replicate (n - vs.length) .no=σ0:=by simp only[T7_,List.length_nil,Nat.reduceAdd,Nat.reduceSub,List.replicate_succ,List.replicate_zero,List.cons_append,List.nil_append];rfl) (hM:s0_ 0 L0=M0:=by simp only[s0_];rfl):n0_ E f vs L0 k rs Lr:=by
 subst hσ hM hn
 refine vb_ η hf hb hname hk hk2 fun C=>?_
 rw[u8_];exact h C
end
section
open Go.RowKit
set_option maxRecDepth 100000
set_option maxHeartbeats 4000000
theorem bldI:∃i,En.P.info? 39=some i∧i.size=2∧i.zero=some (.agg #[.pointer none,.slice none 0 0]):=by
 have h:(Tryz.prog.info? 39).map (fun i=>(i.size,i.zero))=some (2,some (.agg #[.pointer none,.slice none 0 0])):=by kernel_rfl
 obtain⟨i,h1,h2⟩:=Option.map_eq_some_iff.1 h
 exact⟨i,h1,congrArg Prod.fst h2,congrArg Prod.snd h2⟩
theorem a1f_:∀v w,(callFunc 79 #[v]).run En.P w = .ok (.value v) w:=fun v w=>by
 rw[show En.P=Tryz.prog from rfl,run_callFunc_extern Tryz.func79 (by kernel_rfl) (by kernel_rfl) (by kernel_rfl) (e:=Extern.AbiNoEscape.same) (by kernel_rfl)];rfl
abbrev bld (k n:Nat) (t:Str):List Blk:=[⟨39,2,[[bA 0 k,bB 1 n]]⟩,⟨5,1,byR t⟩]
theorem af5_ (n:Nat) (t:Str):ACall En 38 [.pt 0 2 0 0] (bld 0 n t) [] (bld 1 n t):=by
 obtain⟨i,i1,i2,i3⟩:=bldI
 have e0:bA 0 0 = .np:=rfl
 refine aa_ [0,1] Tryz.func38 Tryz.ntmps38 fun C=>?_
 refine .seq (.rgSo [6] [ptrO En .eql .np .np] ?_ ?_ (h:=by simp only[go_sem,seval,e0];rfl))
 ·exact⟨_,_,_,_,_,_,rfl,Tryz.underlying37,i1,rfl,rfl,.inl rfl,trivial⟩
 refine .cB (fun h6=>?_) (fun h6=>?_) (hc:=by simp only[go_sem,seval,e0];rfl) (hp:=by simp only[go_sem,seval,e0])
 ·refine .rgSo [9,11] [toUO En 0 2 ⟨39,2,[[.np,bB 1 n]]⟩,av9_ En 79 (.pt 0 2 0 0) a1f_,amx_ En 0 2 ⟨39,2,[[.np,bB 1 n]]⟩] ?_ ?_ (h:=by simp only[go_sem,seval,e0];rfl)
  ·exact⟨⟨⟨_,_,_,_,_,rfl,Tryz.underlying37,Tryz.underlying108,i1,by omega,rfl⟩,_,_,_,rfl,rfl,rfl⟩,_,_,_,_,rfl,Tryz.underlying108,Tryz.underlying37,i1,i2,rfl⟩
  refine And.intro (.inl rfl) ?_
  exact Out.mm (by simp only[Tryz.results38];rfl) (by simp only[ag_,rns,rn,go_sem,seval,e0]<;>(rfl)) (by simp only[at_,go_sem,seval,e0]<;>(rfl)) (h1:=by simp only[a8_,b4_,go_sem,seval,e0]) (h6:=by simp only[go_sem,seval,e0]) (h7:=by simp only[bm_,go_sem,seval,e0])
 ·cases h6
attribute [local go_sem] axo_ in
theorem agm_ (k n:Nat) (t:Str):ACall En 38 [.pt 0 2 0 0] (bld (k+1) n t) [] (bld 1 n t):=by
 obtain⟨i,i1,i2,i3⟩:=bldI
 refine aa_ [0,1] Tryz.func38 Tryz.ntmps38 fun C=>?_
 refine .seq (.rgSo [6] [ptrO En .eql (.pt 0 2 0 0) .np] ?_ ?_)
 ·exact⟨_,_,_,_,_,_,rfl,Tryz.underlying37,i1,rfl,rfl,.inl rfl,by decide⟩
 refine .cB (fun h6=>?_) (fun h6=>?_)
 ·cases h6
 ·refine .seq (.rgSo [19] [ptrO En .neq (.pt 0 2 0 0) (.pt 0 2 0 0)] ?_ ?_)
  ·exact⟨_,_,_,_,_,_,rfl,Tryz.underlying37,i1,rfl,rfl,.inr rfl,by decide⟩
  refine .cB (fun h19=>?_) (fun h19=>?_)
  ·cases h19
  ·refine .skip ?_
   refine And.intro (.inl rfl) ?_
   exact Out.mm (by simp only[Tryz.results38];rfl) (by simp only[ag_,rns,rn,go_sem,seval]<;>(rfl)) (by simp only[at_,go_sem,seval]<;>(rfl))
theorem sd_ (k n:Nat) (t:Str):ACall En 38 [.pt 0 2 0 0] (bld k n t) [] (bld 1 n t):=by
 cases k with
 |zero=>exact af5_ n t
 |succ k=>exact agm_ k n t
attribute [local go_sem] at_ bm_ in
theorem dv_ (k n:Nat) (t r:Str) (hn:n=t.length) (hb:n+r.length≤100000000000000):n0_ En 17 [.pt 0 2 0 0,.s r] (bld k n t) 1 [.i .i64 r.length,.no] (bld 1 (n+r.length) (t++r)):=by
 refine vy_ [0,40] 1 Tryz.func17 Tryz.ntmps17 fun C=>?_
 refine .seq (.rg [] ?_)
 refine .seq (.rg [bf_ [0,1] [] (sd_ k n t)] ?_)
 refine .seq (.rgSo [14] [awp_ En 5 1 40 n (byR t) r] ?_ ?_)
 ·exact⟨_,_,_,_,1,rfl,by simp only[go_sem,seval],Tryz.underlying9,by decide,my_ _ _,rfl,by simp[hn],by omega⟩
 refine .seq (.rg [] ?_)
 refine .ret ⟨.inr rfl,?_⟩
 exact Out.mmL (by simp only[Tryz.results17];rfl) (by simp only[ag_,rns,rn,go_sem,seval]<;>(rfl)) (by simp only[at_,go_sem,seval]<;>(simp[byR]))
attribute [local go_sem] at_ bm_ in
theorem r7_ (k n:Nat) (t:Str) (c:UInt8) (hn:n=t.length) (hb:n≤100000000000000):n0_ En 300 [.pt 0 2 0 0,.i .u8 c.toNat] (bld k n t) 1 [.no] (bld 1 (n+1) (t++[c])):=by
 refine vy_ [0,40] 1 Tryz.func300 Tryz.ntmps300 fun C=>?_
 refine .seq (.rg [] ?_)
 refine .seq (.rg [bf_ [0,1] [] (sd_ k n t)] ?_)
 refine .seq (.rgSo [14] [ano_ En 5 1 40 n (byR t) (.i .u8 c.toNat)] ?_ ?_)
 ·exact⟨_,_,_,1,_,rfl,by simp only[go_sem,seval],by decide,my_ _ _,rfl,by simp[hn],by omega⟩
 refine .seq (.rg [] ?_)
 refine .ret ⟨.inr rfl,?_⟩
 exact Out.mmL (by simp only[Tryz.results300];rfl) (by simp only[ag_,rns,rn,go_sem,seval]<;>(rfl)) (by simp only[at_,go_sem,seval]<;>(simp[byR]))
attribute [local go_sem] at_ bm_ in
theorem a0z_ (k n:Nat) (t:Str):ACall En 16 [.pt 0 2 0 0] (bld k n t) [.i .i64 n] (bld k n t):=by
 refine aa_ [0,1] Tryz.func16 Tryz.ntmps16 fun C=>?_
 refine .seq (.rg [] ?_)
 refine .seq (.rgSo [7] [aq7_ En 1 n] ?_ ?_)
 ·exact⟨_,_,_,rfl,Tryz.underlying24,my_ _ _⟩
 refine .ret ⟨.inr rfl,?_⟩
 exact Out.mm (by simp only[Tryz.results16];rfl) (by simp only[ag_,rns,rn,go_sem,seval]<;>(rfl)) (by simp only[at_,go_sem,seval]<;>(rfl))
attribute [local go_sem] at_ bm_ in
theorem l9_ (k n:Nat) (t:Str) (hn:n=t.length) (hb:n≤100000000000000):n0_ En 19 [.pt 0 2 0 0] (bld k n t) 1 [.s t] [⟨39,2,[[.no,.no]]⟩]:=by
 subst hn
 have hc:En.P.cellsOf 5=1:=by kernel_rfl
 refine vy_ [0] 1 Tryz.func19 Tryz.ntmps19 fun C=>?_
 refine .seq (.rg [] ?_)
 refine .seq (.rgDSo [7,12,13] [art_ En 1 t.length,aq7_ En 1 t.length,apk_ En 5 1 t] ?_ ?_)
 ·exact⟨⟨⟨_,_,rfl,my_ _ _⟩,_,_,_,rfl,Tryz.underlying24,my_ _ _⟩,_,_,_,_,rfl,Tryz.underlying81,hc,aex_ _ _,rfl,by omega⟩
 refine .can (Can.leAt 0 ([[.no,.no]]) (by simp only[go_sem,seval]<;>rfl) (by simp only[go_sem,seval,ler,les,leV]<;>(first|trivial|simp)) (by simp only[go_sem,seval]<;>rfl)) ?_
 refine .ret ⟨.inr rfl,?_⟩
 exact Out.mm (by simp only[Tryz.results19];rfl) (by simp only[ag_,rns,rn,go_sem,seval]<;>(rfl)) (by simp only[at_,go_sem,seval]<;>(rfl))
end
section
open Go.RowKit
set_option maxRecDepth 100000
set_option maxHeartbeats 8000000
theorem ajd_ (n:Int):ACall En 270 [.i .i64 n] [] [.b (f1_ n)] []:=by
 refine aa_ [] Tryz.func270 Tryz.ntmps270 fun C=>?_
 refine .seq (.rg [] ?_)
 refine .seq (.rg [ab_ (sz_ n (-1000000) 1000000)] ?_)
 refine .ret ⟨.inr rfl,?_⟩
 exact Out.pl (by simp only[Tryz.results270];rfl) (by simp only[ag_,go_sem,seval]<;>(rfl))
theorem ajp_ {q:Nat × Nat × Str} {D:Str} (h:q.2.2++m9_ (q.1+1) q.2.1=D∧q.2.1<16 ^ (q.1+1)∧q.1+q.2.2.length=7∧q.2.1≤2000001) (hv:16≤q.2.1) :
  (q.2.2++[lets.getD (q.2.1 % 16+16) 0])++m9_ (q.1 - 1+1) (q.2.1 / 16)=D∧q.2.1 / 16<16 ^ (q.1 - 1+1)∧q.1 - 1+(q.2.2++[lets.getD (q.2.1 % 16+16) 0]).length=7∧q.2.1 / 16≤2000001:=by
 obtain⟨f,v,o⟩:=q
 obtain⟨h1,h2,h3,h4⟩:=h
 dsimp only at *
 cases f with
 |zero=>omega
 |succ f=>
  rw[ajy_ (by omega)]at h1
  rw[Nat.pow_succ]at h2
  exact⟨by simpa using h1,by rw[Nat.add_sub_cancel];omega,by simp;omega,by omega⟩
attribute [local go_sem] at_ bm_ je_ mw_ in
theorem ags_ (n:Int):ACall En 271 [.i .i64 n] [] [.s (n2_ n)] []:=by
 obtain⟨iB,i1,i2,i3⟩:=bldI
 have hz:=@wm_ n
 refine aa_ [] Tryz.func271 Tryz.ntmps271 fun C=>?_
 refine .seq (.rg [] ?_)
 refine .seq (.seq (.rg [ab_ (ajd_ n)] ?_))
 refine .cB (fun h7=>?_) (fun h7=>?_)
 ·refine .seq (.rg [] ?_)
  refine .ret ⟨.inr rfl,?_⟩
  exact Out.plL (by simp only[Tryz.results271];rfl) (by simp only[ag_,go_sem,seval]<;>(simp at h7;simp[n2_,h7]))
 ·refine .skip (.seq (.rg [] ?_))
  refine .seqJ (fun u:Unit=>⟨[.i .i64 n,.no,.no,.i .i64 (zig n),.no,.no,.no,.no,.no,.no,.no,.no,.no,.no,.no,.no,.no,.no,.no,.no,.no,.no,.no,.no,.no,.no,.no,.no],ak_ [],us []⟩) (fun u:Unit=>f1_ n=true) ?_ (fun u hJ=>?_)
  ·refine .seq (.rg [] ?_)
   refine .cB (fun h11=>?_) (fun h11=>?_)
   ·refine .rg [] ?_
    refine Exists.intro (()) ⟨?_,?_⟩
    ·simpa using h7
    refine Can.wh ?_;first|trivial|(simp at h7;have hq:=h7;simp only[f1_,T5_,T3_]at hq;first|(simp only[T3_]at h11;rw[aj_ (n:= -2 * n) (by omega) (by omega),aj_ (by omega) (by omega)];unfold zig;rw[if_pos h11];omega)|(simp only[T4_]at h11;rw[aj_ (by omega) (by omega)];unfold zig;rw[if_neg h11];omega))
   ·refine .skip ?_
    refine Exists.intro (()) ⟨?_,?_⟩
    ·simpa using h7
    refine Can.wh ?_;first|trivial|(simp at h7;have hq:=h7;simp only[f1_,T5_,T3_]at hq;first|(simp only[T3_]at h11;rw[aj_ (n:= -2 * n) (by omega) (by omega),aj_ (by omega) (by omega)];unfold zig;rw[if_pos h11];omega)|(simp only[T4_]at h11;rw[aj_ (by omega) (by omega)];unfold zig;rw[if_neg h11];omega))
  refine .seq (.rgSo [4] [xp_ En 39 14] ?_ ?_)
  ·exact⟨_,i1,i3⟩
  refine .seq (.block (.loopK (fun q:Nat × Nat × Str=>⟨[.no,.no,.no,.i .i64 q.2.1,.pt 14 2 0 0,.no,.no,.no,.no,.no,.no,.no,.no,.no,.no,.no,.no,.no,.no,.no,.no,.no,.no,.no,.no,.no,.no,.no],ak_ [(14,⟨39,2,[[bA 14 q.2.2.length,bB 20 q.2.2.length]]⟩),(20,⟨5,1,byR q.2.2⟩)],us [14,20]⟩) (fun q:Nat × Nat × Str=>q.2.2++m9_ (q.1+1) q.2.1=m9_ 8 (zig n)∧q.2.1<16 ^ (q.1+1)∧q.1+q.2.2.length=7∧q.2.1≤2000001) (fun q:Nat × Nat × Str=>q.1) ((7,zig n,[])) ?_ ?_ (fun q hI=>?_)))
  ·exact⟨rfl,by have:=hz hJ;dsimp only;omega,rfl,hz hJ⟩
  ·refine Can.trans (Can.newName 20 5 1 (by simp only[go_sem,seval]<;>rfl) (by simp only[go_sem,seval]<;>rfl)) ?_
   refine Can.wk ?_ ?_
   ·first|trivial|((try rfl))
   ·first|trivial|(exact⟨rfl,rfl⟩)
  refine .seq (.seq (.rg [] ?_))
  refine .cB (fun h16=>?_) (fun h16=>?_)
  ·refine .skip (.seq (.block (.rgo [jb_ [14,20] [14,40] (r7_ q.2.2.length q.2.2.length q.2.2 (lets.getD (q.2.1 % 16+16) 0) rfl (by omega))] ?_ ?_)))
   ·simp only[T3_]at h16;rw[t16,aj_ (by omega) (by omega)];exact⟨by omega,by rw[show(((q.2.1 % 16:Nat):Int)+16).toNat=q.2.1 % 16+16 by omega];exact⟨rfl,by decide,by decide⟩⟩
   refine .rg [] ?_
   refine Exists.intro ((q.1 - 1,q.2.1 / 16,q.2.2++[lets.getD (q.2.1 % 16+16) 0])) ⟨?_,?_,?_⟩
   ·simp only[T3_]at h16;exact ajp_ hI (by omega)
   ·simp only[T3_]at h16;have:=(ajp_ hI (by omega)).2.2.1;simp only[T2_,T7_,List.length_nil]at this;dsimp only;omega
   refine Can.trans (Can.sX 40 20) ?_
   refine Can.wk ?_ ?_
   ·first|trivial|(rw[d16,aj_ (by omega) (by omega)])
   ·first|trivial|(simp[bA,byR])
  ·refine .exit (.seq (.rgo [jb_ [14,20] [14,40] (r7_ q.2.2.length q.2.2.length q.2.2 (lets.getD q.2.1 0) rfl (by omega))] ?_ ?_))
   ·simp only[T4_]at h16;exact⟨by omega,rfl,by decide,by decide⟩
   refine .seq (.rg [jb_ [14,40] [14] (l9_ 1 (q.2.2.length+1) (q.2.2++[lets.getD q.2.1 0]) (by simp) (by omega))] ?_)
   refine .ret ⟨.inr rfl,?_⟩
   exact Out.plL (by simp only[Tryz.results271];rfl) (by simp only[ag_,go_sem,seval]<;>(simp only[T4_]at h16;have e:=hI.1;rw[ah2_ (by omega)]at e;rw[e];simp[n2_,hJ]))
attribute [local go_sem] at_ bm_ je_ mw_ as_ ao_ in
theorem acz_ (l:List Int) (hl:l.length≤1000000):ACall En 219 [.sl false (inR l)] [] [.s (lf_ l)] []:=by
 obtain⟨iB,i1,i2,i3⟩:=bldI
 refine aa_ [] Tryz.func219 Tryz.ntmps219 fun C=>?_
 refine .seq (.rgo [] ?_ ?_)
 ·(first|trivial|(simp;done)|(simp only[T3_]at h9;and_intros<;>omega))
 refine .seq (.rgSo [3] [xp_ En 39 13] ?_ ?_)
 ·exact⟨_,i1,i3⟩
 refine .seq (.seq (.rgo [] ?_ ?_))
 ·(first|trivial|(simp;done)|(simp only[T3_]at h9;and_intros<;>omega))
 refine .block (.loopK (fun k:Nat=>⟨[.no,.no,.no,.pt 13 2 0 0,.no,.no,.sl false (inR l),.i .i64 l.length,.i .i64 k,.no,.no,.no,.no,.no,.no,.no,.no,.no,.no,.no],ak_ [(13,⟨39,2,[[bA 13 k,bB 20 (iv_ l k).length]]⟩),(20,⟨5,1,byR (iv_ l k)⟩)],us [13,20]⟩) (fun k:Nat=>k≤l.length∧∀j,j<k→f1_ (l.getD j 0)=true) (fun k:Nat=>l.length - k) (0) ?_ ?_ (fun k hI=>?_))
 ·exact⟨Nat.zero_le _,fun j hj=>absurd hj (by omega)⟩
 ·refine Can.trans (Can.newName 20 5 1 (by simp only[go_sem,seval]<;>rfl) (by simp only[go_sem,seval]<;>rfl)) ?_
  refine Can.wk ?_ ?_
  ·first|trivial|((try simp))
  ·first|trivial|(exact⟨rfl,rfl⟩)
 refine .seq (.rgo [] ?_ ?_)
 ·(first|trivial|(simp;done)|(simp only[T3_]at h9;and_intros<;>omega))
 refine .seq (.cB (fun h9=>?_) (fun h9=>?_))
 ·refine .skip (.seq (.block (.seq (.rgo [] ?_ ?_ (h:=by simp only[go_sem,seval,c8_ (show k<l.length by simpa using h9)];rfl)))))
  ·(first|trivial|(simp;done)|(simp only[T3_]at h9;and_intros<;>omega))
  refine .seq (.seq (.rgo [ab_ (ajd_ (l.getD k 0))] ?_ ?_))
  ·(first|trivial|(simp;done)|(simp only[T3_]at h9;and_intros<;>omega))
  refine .cB (fun h14=>?_) (fun h14=>?_)
  ·refine .seq (.rgo [] ?_ ?_)
   ·(first|trivial|(simp;done)|(simp only[T3_]at h9;and_intros<;>omega))
   refine .ret ⟨.inr rfl,?_⟩
   exact Out.plL (by simp only[Tryz.results219];rfl) (by simp only[ag_,go_sem,seval]<;>(simp only[T3_]at h9;rw[yw_ (k:=k) (by omega) (by simpa using h14)]))
  ·refine .skip (.rgo [ab_ (ags_ (l.getD k 0)),jb_ [13,20] [13,40] (dv_ k (iv_ l k).length (iv_ l k) (n2_ (l.getD k 0)) rfl (by have:=ey_ l k;have:=fx_ (l.getD k 0);omega))] ?_ ?_)
   ·(first|trivial|(simp;done)|(simp only[T3_]at h9;and_intros<;>omega))
   refine .rgo [] ?_ ?_
   ·(first|trivial|(simp;done)|(simp only[T3_]at h9;and_intros<;>omega))
   refine Exists.intro (k+1) ⟨?_,?_,?_⟩
   ·simp only[T3_]at h9;exact⟨by omega,fun j hj=>by by_cases e:j=k;(subst e;simpa using h14);exact hI.2 j (by omega)⟩
   ·simp at h9;omega
   refine Can.trans (Can.sX 40 20) ?_
   refine Can.wk ?_ ?_
   ·first|trivial|(simp only[T3_]at h9;rw[aj_ (by omega) (by omega)];(try simp))
   ·first|trivial|(simp only[T3_]at h9;rw[xn_ (by omega)];simp[bA,byR])
 ·refine .exit (.seq (.rgo [jb_ [13,20] [13] (l9_ k (iv_ l k).length (iv_ l k) rfl (by have:=ey_ l k;omega))] ?_ ?_))
  ·(first|trivial|(simp;done)|(simp only[T3_]at h9;and_intros<;>omega))
  refine .ret ⟨.inr rfl,?_⟩
  exact Out.plL (by simp only[Tryz.results219];rfl) (by simp only[ag_,go_sem,seval]<;>(simp only[T4_]at h9;rw[yc_ (acl_ fun j hj=>hI.2 j (by omega)) (by omega)]))
end
section
theorem le_ {l:List Sg} {k:Nat} (h:hu_ l=true) (hk:k<l.length):(0≤(l.getD k G0).1∧(l.getD k G0).1≤15)∧(0≤(l.getD k G0).2.1∧(l.getD k G0).2.1≤119)∧(0≤(l.getD k G0).2.2.1∧(l.getD k G0).2.2.1≤15)∧(0≤(l.getD k G0).2.2.2∧(l.getD k G0).2.2.2≤119)∧(k=0∨(l.getD (k - 1) G0).1≤(l.getD k G0).1):=by
 simp only[hu_,T5_]at h
 have:=List.all_eq_true.1 h.1 k (by simpa using hk)
 simp only[r1_,T5_,Bool.or_eq_true,T3_]at this
 omega
theorem l6_ {l:List Sg} {k:Nat} (h:hu_ l=true) (hk:k<l.length):(0≤(ahd l k).1∧(ahd l k).1≤(l.getD k G0).1)∧(0≤(ahd l k).2.1∧(ahd l k).2.1≤119)∧(0≤(ahd l k).2.2.1∧(ahd l k).2.2.1≤15)∧(0≤(ahd l k).2.2.2∧(ahd l k).2.2.2≤119):=by
 have h1:=le_ h hk
 unfold ahd
 split
 ·dsimp only;omega
 ·have h2:=le_ h (k:=k - 1) (by omega)
  omega
theorem am6_ {l:List Sg} (h:hu_ l=true):l.length≤1280:=by
 simp only[hu_,T5_,T3_]at h;exact h.2
theorem kz_ {l:List Sg} (h:hu_ l=true):∀k,k≤l.length→(ih_ l k).length≤41 * k
 |0,_=>by simp[ih_]
 |k+1,hk=>by
  have h1:=kz_ h k (by omega)
  have h2:=asb_ l k
  have h3:=le_ h (k:=k) (by omega)
  have h4:=l6_ h (k:=k) (by omega)
  rw[ih_,T2_]
  omega
def su_ (l:List Sg) (k:Nat):Str:=ih_ l k++((if k≠0∧(l.getD k G0).1=(ahd l k).1 then [44]else [])++List.replicate ((l.getD k G0).1 - (ahd l k).1).toNat 61)
def wx_ (l:List Sg) (k:Nat):Int:=if (ahd l k).1<(l.getD k G0).1 then 0 else(ahd l k).2.1
theorem adu_ (l:List Sg) (k:Nat):ih_ l (k+1)=su_ l k++lf_ (seg3 l k):=by
 rw[ih_];unfold su_ segT;simp only[List.append_assoc]
theorem as1_ (l:List Sg) (k:Nat):seg3 l k=[(l.getD k G0).2.1 - wx_ l k,(l.getD k G0).2.2.1 - (ahd l k).2.2.1,(l.getD k G0).2.2.2 - (ahd l k).2.2.2]:=rfl
theorem aub_ {l:List Sg} (h:hu_ l=true) {k:Nat} (hk:k<l.length):(su_ l k).length≤41 * k+16:=by
 have h1:=kz_ h k (by omega)
 have h3:=le_ h hk
 have h4:=l6_ h hk
 unfold su_
 simp only[T2_,List.length_replicate]
 split<;>simp only[T7_,List.length_nil]<;>omega
theorem ami_ {l:List Sg} {k:Nat} (hk:k≠0) (h:(l.getD k G0).1=(ahd l k).1):su_ l k=ih_ l k++[44]:=by
 unfold su_;rw[if_pos ⟨hk,h⟩,h,Int.sub_self];simp
theorem anm_ {l:List Sg} {k m:Nat} (hm:(ahd l k).1+m=(l.getD k G0).1) (hk:k≠0) (h0:m=0):ih_ l k++List.replicate m 61++[44]=su_ l k:=by
 subst h0;rw[ami_ hk (by omega)];simp
theorem an3_ {l:List Sg} {k m:Nat} (hm:(ahd l k).1+m=(l.getD k G0).1) (h:¬(k≠0∧m=0)):ih_ l k++List.replicate m 61=su_ l k:=by
 unfold su_
 rw[if_neg (by omega),List.nil_append,show((l.getD k G0).1 - (ahd l k).1).toNat=m by omega]
theorem vh_ {l:List Sg} {k m:Nat} (hm:(ahd l k).1+m=(l.getD k G0).1):(if m=0 then(ahd l k).2.1 else 0)=wx_ l k:=by
 unfold wx_
 by_cases h:m=0
 ·rw[if_pos h,if_neg (by omega)]
 ·rw[if_neg h,if_pos (by omega)]
theorem pz_ {l:List Sg} {k:Nat} (h:k≠0):l.getD (k - 1) G0=ahd l k:=by unfold ahd;rw[if_neg h]
def k4_ (l:List Sg) (k m:Nat):Str:=ih_ l k++((if k≠0∧(l.getD k G0).1=(ahd l k).1 then [44]else [])++List.replicate m 61)
theorem amn_ (l:List Sg) (k m:Nat):k4_ l k (m+1)=k4_ l k m++[61]:=by unfold k4_;rw[List.replicate_succ'];simp only[List.append_assoc]
theorem aoy_ {l:List Sg} {k m:Nat} (hm:(ahd l k).1+m=(l.getD k G0).1):k4_ l k m=su_ l k:=by unfold k4_ su_;rw[show((l.getD k G0).1 - (ahd l k).1).toNat=m by omega]
theorem anp_ {l:List Sg} {k:Nat} (hk:k≠0) (h:(l.getD k G0).1=(ahd l k).1):k4_ l k 0=ih_ l k++[44]:=by unfold k4_;rw[if_pos ⟨hk,h⟩];simp
theorem aof_ {l:List Sg} {k:Nat} (h:¬(k≠0∧(l.getD k G0).1=(ahd l k).1)):k4_ l k 0=ih_ l k:=by unfold k4_;rw[if_neg h];simp
theorem aj9_ {l:List Sg} (h:hu_ l=true) {k m:Nat} (hk:k<l.length) (hm:(m:Int)≤(l.getD k G0).1 - (ahd l k).1):(k4_ l k m).length≤41 * k+16:=by
 have h1:=kz_ h k (by omega)
 have h3:=le_ h hk
 have h4:=l6_ h hk
 unfold k4_
 simp only[T2_,List.length_replicate]
 split<;>simp only[T7_,List.length_nil]<;>omega
theorem avx_ (m:Nat):List.replicate (m+1) (61:UInt8)=List.replicate m 61++[61]:=List.replicate_succ'
end
end Go.Proofs.YthjccajoadjicaaGreatDoor
