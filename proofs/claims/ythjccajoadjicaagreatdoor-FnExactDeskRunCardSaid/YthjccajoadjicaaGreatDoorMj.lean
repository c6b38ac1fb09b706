/- What an expression comes to: the program's and the reference's. Conditions: none. -/
import Derived.Test.YthjccajoadjicaaGreatDoorMi
import Derived.Test.YthjccajoadjicaaGreatDoorMd
set_option linter.unusedVariables false
set_option linter.unusedSimpArgs false
set_option maxRecDepth 100000
set_option maxHeartbeats 8000000
namespace Go.Proofs.YthjccajoadjicaaGreatDoor
section
theorem akb_ (n:Int):ACall En 228 [.i .i64 n] [] [.i .i64 (vg_ n)] []:=by
 refine aa_ [] Tryz.func228 Tryz.ntmps228 fun C=>?_
 refine .seq (.rg [] ?_)
 refine .seq (.rg [] ?_)
 refine .ret ⟨.inr rfl,Out.pP Tryz.results228 ?_⟩;simp only[List.cons.injEq,V.i.injEq,and_true,true_and];unfold vg_;by_cases h:n<1000000<;>simp only[h,if_true,if_false]<;>split<;>omega
theorem axc_ (x y:Int):ACall En 311 [.i .i64 x,.i .i64 y] [] [.i .i64 (min x y)] []:=by
 refine aa_ [] Tryz.func311 Tryz.ntmps311 fun C=>?_
 refine .seq (.rg [] ?_)
 refine .seq (.seq (.rg [] ?_))
 refine .cB (fun h7=>?_) fun h7=>?_
 ·refine .seq (.rg [] ?_)
  refine .ret ⟨.inr rfl,Out.pP Tryz.results311 ?_⟩;congr 1;simp at *;omega
 refine .skip (.seq (.rg [] ?_))
 refine .ret ⟨.inr rfl,Out.pP Tryz.results311 ?_⟩;congr 1;simp at *;omega
theorem ave_ (x y:Int):ACall En 28 [.i .i64 x,.i .i64 y] [] [.i .i64 (max x y)] []:=by
 refine aa_ [] Tryz.func28 Tryz.ntmps28 fun C=>?_
 refine .seq (.rg [] ?_)
 refine .seq (.seq (.rg [] ?_))
 refine .cB (fun h7=>?_) fun h7=>?_
 ·refine .seq (.rg [] ?_)
  refine .ret ⟨.inr rfl,Out.pP Tryz.results28 ?_⟩;congr 1;simp at *;omega
 refine .skip (.seq (.rg [] ?_))
 refine .ret ⟨.inr rfl,Out.pP Tryz.results28 ?_⟩;congr 1;simp at *;omega
theorem aa0_ (n:Int):ACall En 291 [.i .i64 n] [] [.i .i64 (vg_ n)] []:=by
 refine aa_ [] Tryz.func291 Tryz.ntmps291 fun C=>?_
 refine .seq (.rg [] ?_)
 refine .seq (.rg [ab_ (axc_ 1000000 n),ab_ (ave_ (-1000000) (min 1000000 n))] ?_)
 refine .ret ⟨.inr rfl,Out.pP Tryz.results291 ?_⟩;rfl
attribute [local go_sem] af_ ah_ in
theorem amg_ (N:List Str) (s:Str) (hl:N.length≤1000000):ACall En 290 [.sl false (ai_ N),.s s] [] [.i .i64 (fj_ N s)] []:=by
 refine aa_ [] Tryz.func290 Tryz.ntmps290 fun C=>?_
 refine .seq (.rg [] ?_)
 refine .seq (.seq (.rg [] ?_))
 refine .block (.loopK (fun k:Nat=>⟨[.sl false (ai_ N),.s s,.no,.no,.no,.i .i64 ((k:Int) - 1),.no,.no,.no,.no,.no,.no,.no,.no,.no,.no,.no,.no,.no,.no],ae_ [],us []⟩) (fun k:Nat=>k≤N.length∧fj_ N s=j9_ N k s) (fun k:Nat=>k) (N.length) ?_ ?_ (fun k hI=>?_))
 ·exact⟨Nat.le_refl _,rfl⟩
 ·refine Can.wh ?_;rw[ac_ (by omega) (by omega)]
 refine .seq (.seq (.rg [] ?_))
 refine .cB (fun h10=>?_) fun h10=>?_
 ·refine .skip (.seq (.block (.seq (.rgo [] ?_ ?_ (h:=by simp only[go_sem,seval,an_ (show k - 1<N.length by simp at h10;omega),show((k:Int) - 1).toNat=k - 1 by omega];rfl)))))
  ·simp at h10;simp;omega
  refine .cB (fun h18=>?_) fun h18=>?_
  ·refine .seq (.rg [] ?_)
   refine .ret ⟨.inr rfl,Out.pP Tryz.results290 ?_⟩;simp at h10;(obtain⟨j,rfl⟩:∃j,k=j+1:=⟨k - 1,by omega⟩);rw[hI.2];simp only[j9_];rw[if_pos (by simpa using h18)];simp only[List.cons.injEq,V.i.injEq,and_true,true_and];omega
  refine .skip (.rg [] ?_)
  refine⟨k - 1,?_,?_,?_⟩
  ·simp at h10;refine⟨by omega,?_⟩;rw[hI.2];(obtain⟨j,rfl⟩:∃j,k=j+1:=⟨k - 1,by omega⟩);simp only[j9_];rw[if_neg (by simpa using h18)];rfl
  ·simp at h10;omega
  refine Can.wh ?_;simp at h10;rw[ac_ (by omega) (by omega)];simp;omega
 refine .exit (.seq (.rg [] ?_))
 refine .ret ⟨.inr rfl,Out.pP Tryz.results290 ?_⟩;simp at h10;(obtain rfl:k=0:=(by omega));rw[hI.2];rfl
theorem ajl_ (a b:Int) (ha : -1000000≤a∧a≤1000000) (hb : -1000000≤b∧b≤1000000) : -1000000000000≤a * b∧a * b≤1000000000000:=by
 have h1:(a * b).natAbs≤1000000 * 1000000:=by rw[Int.natAbs_mul];exact Nat.mul_le_mul (by omega) (by omega)
 omega
theorem a1w_ (s:Str) (a b:Int) (ha : -1000000≤a∧a≤1000000) (hb : -1000000≤b∧b≤1000000):ACall En 292 [.s s,.i .i64 a,.i .i64 b] [] [.i .i64 (twI s a b)] []:=by
 have hm:=ajl_ a b ha hb
 refine aa_ [] Tryz.func292 Tryz.ntmps292 fun C=>?_
 refine .seq (.rg [] ?_)
 refine .seq (.seq (.rg [] ?_))
 refine .block (.seq (.rg [] ?_))
 refine .cB (fun h8=>?_) fun h8=>?_
 ·refine .seq (.rg [ab_ (aa0_ (a+b))] ?_ (h:=by simp only[go_sem,seval,ac_ (show -9223372036854775808≤a+b by omega) (by omega)];rfl))
  refine .ret ⟨.inr rfl,Out.pP Tryz.results292 ?_⟩;simp_all[twI]
 refine .seq (.rg [] ?_)
 refine .cB (fun h14=>?_) fun h14=>?_
 ·refine .seq (.rg [ab_ (aa0_ (a - b))] ?_ (h:=by simp only[go_sem,seval,ac_ (show -9223372036854775808≤a - b by omega) (by omega)];rfl))
  refine .ret ⟨.inr rfl,Out.pP Tryz.results292 ?_⟩;simp_all[twI]
 refine .seq (.rg [] ?_)
 refine .cB (fun h20=>?_) fun h20=>?_
 ·refine .seq (.rg [ab_ (aa0_ (a * b))] ?_ (h:=by simp only[go_sem,seval,ac_ (show -9223372036854775808≤a * b by omega) (by omega)];rfl))
  refine .ret ⟨.inr rfl,Out.pP Tryz.results292 ?_⟩;simp_all[twI]
 refine .skip (.seq (.seq (.rg [] ?_)))
 refine .cB (fun h28=>?_) fun h28=>?_
 ·refine .seq (.rg [] ?_)
  refine .ret ⟨.inr rfl,Out.pP Tryz.results292 ?_⟩;simp_all[twI]
 refine .skip (.seq (.rg [] ?_))
 refine .ret ⟨.inr rfl,Out.pP Tryz.results292 ?_⟩;simp_all[twI]
attribute [local go_sem] a2_ al_ in
theorem o2_ (d:Nat):∀(e:E) (N:List Str) (M:List Int),form e d=true→N.length=M.length→N.length≤1000000→ACall En 160 [.ag (eC e),.sl false (ai_ N),.sl false (inR M)] [] [.i .i64 (rk e N M).1,.b (rk e N M).2] []:=by
 induction d with
 |zero=>intro e N M h;have:=(aj_ h).1;omega
 |succ d ih=>
 intro e N M h hl hn
 have e1:((d+1:Nat):Int) - 1=(d:Int):=by omega
 have g3:e.kind=3→e.kids.length=2∧form (e.kids.getD 0 E0) d=true∧form (e.kids.getD 1 E0) d=true∧fn_ e.s=true:=fun hk=>by
  rcases (aj_ h).2 with⟨k1,_⟩|⟨k1,_⟩|⟨k1,h1,h2,h3,h4,h5⟩|⟨k1,_⟩<;>try omega
  rw[e1]at h4 h5;exact⟨h3,h4,h5,h2⟩
 have g4:e.kind=4→e.kids.length=1∧form (e.kids.getD 0 E0) d=true:=fun hk=>by
  rcases (aj_ h).2 with⟨k1,_⟩|⟨k1,_⟩|⟨k1,_⟩|⟨k1,h1,h2,h3,h4⟩<;>try omega
  rw[e1]at h4;exact⟨h3,h4⟩
 have g0:¬e.kind=1→¬e.kind=2→¬e.kind=4→e.kind=3:=fun a b c=>by
  rcases (aj_ h).2 with⟨k1,_⟩|⟨k1,_⟩|⟨k1,_⟩|⟨k1,_⟩<;>omega
 have hb:=py_ N e.s
 have Q:e.kind=3→(-1000000≤(rk (e.kids.getD 0 E0) N M).1∧(rk (e.kids.getD 0 E0) N M).1≤1000000)∧(-1000000≤(rk (e.kids.getD 1 E0) N M).1∧(rk (e.kids.getD 1 E0) N M).1≤1000000):=fun hk=>
  ⟨agy_ d _ N M (g3 hk).2.1,agy_ d _ N M (g3 hk).2.2.1⟩
 have P:=fun hk=>ajl_ _ _ (Q hk).1 (Q hk).2
 have R1:=@aig_ e
 have R2:=@abk_ e
 have R3:e.kind=3→rk e N M=pp_ e.s (rk (e.kids.getD 0 E0) N M) (rk (e.kids.getD 1 E0) N M):=fun hk=>vx_ hk (g3 hk).1 N M
 have R4:e.kind=4→rk e N M=rk (e.kids.getD 0 E0) N M:=fun hk=>amb_ hk (g4 hk).1 N M
 refine aa_ [] Tryz.func160 Tryz.ntmps160 fun C=>?_
 refine .seq (.rg [] ?_)
 refine .seq (.seq (.rg [] ?_))
 refine .block (.seq (.rg [] ?_))
 refine .cB (fun h15=>?_) fun h15=>?_
 ·refine .seq (.rg [] ?_)
  refine .ret ⟨.inr rfl,Out.pP Tryz.results160 ?_⟩;rw[R1 (by simpa using h15)]
 refine .seq (.rg [] ?_)
 refine .cB (fun h19=>?_) fun h19=>?_
 ·refine .seq (.rg [ab_ (arx_ N e.s (by omega))] ?_)
  refine .seq (.seq (.rg [] ?_))
  refine .cB (fun h26=>?_) fun h26=>?_
  ·refine .seq (.rg [] ?_)
   refine .ret ⟨.inr rfl,Out.pP Tryz.results160 ?_⟩;rw[R2 (by simpa using h19),if_pos (by simpa using h26)]
  refine .skip (.seq (.rgo [ab_ (akb_ (M.getD (fj_ N e.s).toNat 0))] ?_ ?_ (h:=by simp only[go_sem,seval,c1_ (show(fj_ N e.s).toNat<M.length by simp at h26;omega)];rfl)))
  ·simp at h26;(try simp);omega
  refine .ret ⟨.inr rfl,Out.pP Tryz.results160 ?_⟩;rw[R2 (by simpa using h19),if_neg (by simpa using h26)]
 refine .seq (.rg [] ?_)
 refine .cB (fun h32=>?_) fun h32=>?_
 ·refine .seq (.rgo [ab_ (ih (e.kids.getD 0 E0) N M (g4 (by simpa using h32)).2 hl hn)] ?_ ?_ (h:=by simp only[go_sem,seval,b8_ (show 0<e.kids.length by have:=g4 (by simpa using h32);omega)];rfl))
  ·have:=g4 (by simpa using h32);simp;omega
  refine .ret ⟨.inr rfl,Out.pP Tryz.results160 ?_⟩;rw[R4 (by simpa using h32)]
 refine .skip (.seq (.rgo [ab_ (ih (e.kids.getD 0 E0) N M (g3 (g0 (by simpa using h15) (by simpa using h19) (by simpa using h32))).2.1 hl hn)] ?_ ?_ (h:=by simp only[go_sem,seval,b8_ (show 0<e.kids.length by have:=g3 (g0 (by simpa using h15) (by simpa using h19) (by simpa using h32));omega)];rfl)))
 ·have:=g3 (g0 (by simpa using h15) (by simpa using h19) (by simpa using h32));simp;omega
 refine .seq (.rgo [ab_ (ih (e.kids.getD 1 E0) N M (g3 (g0 (by simpa using h15) (by simpa using h19) (by simpa using h32))).2.2.1 hl hn)] ?_ ?_ (h:=by simp only[go_sem,seval,b8_ (show 1<e.kids.length by have:=g3 (g0 (by simpa using h15) (by simpa using h19) (by simpa using h32));omega)];rfl))
 ·have:=g3 (g0 (by simpa using h15) (by simpa using h19) (by simpa using h32));simp;omega
 refine .seq (.seq (.rg [] ?_))
 refine .cB (fun h68=>?_) fun h68=>?_
 ·refine .seq (.rg [] ?_)
  refine .ret ⟨.inr rfl,Out.pP Tryz.results160 ?_⟩;rw[R3 (g0 (by simpa using h15) (by simpa using h19) (by simpa using h32))];simp at h68;(rcases h68 with h|h<;>simp[pp_,h])
 refine .skip (.seq (.seq (.rg [] ?_)))
 refine .block (.seq (.rg [] ?_))
 refine .cB (fun h71=>?_) fun h71=>?_
 ·refine .seq (.rg [ab_ (akb_ ((rk (e.kids.getD 0 E0) N M).1+(rk (e.kids.getD 1 E0) N M).1))] ?_ (h:=by simp only[go_sem,seval,ac_ (show -9223372036854775808≤(rk (e.kids.getD 0 E0) N M).1+(rk (e.kids.getD 1 E0) N M).1 by have:=Q (g0 (by simpa using h15) (by simpa using h19) (by simpa using h32));omega) (by have:=Q (g0 (by simpa using h15) (by simpa using h19) (by simpa using h32));omega)];rfl))
  refine .ret ⟨.inr rfl,Out.pP Tryz.results160 ?_⟩;rw[R3 (g0 (by simpa using h15) (by simpa using h19) (by simpa using h32))];simp at h68 h71;simp[pp_,twI,h68,h71]
 refine .seq (.rg [] ?_)
 refine .cB (fun h77=>?_) fun h77=>?_
 ·refine .seq (.rg [ab_ (akb_ ((rk (e.kids.getD 0 E0) N M).1 - (rk (e.kids.getD 1 E0) N M).1))] ?_ (h:=by simp only[go_sem,seval,ac_ (show -9223372036854775808≤(rk (e.kids.getD 0 E0) N M).1 - (rk (e.kids.getD 1 E0) N M).1 by have:=Q (g0 (by simpa using h15) (by simpa using h19) (by simpa using h32));omega) (by have:=Q (g0 (by simpa using h15) (by simpa using h19) (by simpa using h32));omega)];rfl))
  refine .ret ⟨.inr rfl,Out.pP Tryz.results160 ?_⟩;rw[R3 (g0 (by simpa using h15) (by simpa using h19) (by simpa using h32))];simp at h68 h71 h77;simp[pp_,twI,h68,h71,h77]
 refine .seq (.rg [] ?_)
 refine .cB (fun h83=>?_) fun h83=>?_
 ·refine .seq (.rg [ab_ (akb_ ((rk (e.kids.getD 0 E0) N M).1 * (rk (e.kids.getD 1 E0) N M).1))] ?_ (h:=by simp only[go_sem,seval,ac_ (show -9223372036854775808≤(rk (e.kids.getD 0 E0) N M).1 * (rk (e.kids.getD 1 E0) N M).1 by have:=P (g0 (by simpa using h15) (by simpa using h19) (by simpa using h32));omega) (by have:=P (g0 (by simpa using h15) (by simpa using h19) (by simpa using h32));omega)];rfl))
  refine .ret ⟨.inr rfl,Out.pP Tryz.results160 ?_⟩;rw[R3 (g0 (by simpa using h15) (by simpa using h19) (by simpa using h32))];simp at h68 h71 h77 h83;simp[pp_,twI,h68,h71,h77,h83]
 refine .skip (.seq (.seq (.rg [] ?_)))
 refine .cB (fun h91=>?_) fun h91=>?_
 ·refine .seq (.rg [] ?_)
  refine .ret ⟨.inr rfl,Out.pP Tryz.results160 ?_⟩;rw[R3 (g0 (by simpa using h15) (by simpa using h19) (by simpa using h32))];simp at h68 h71 h77 h83 h91;simp[pp_,twI,h68,h71,h77,h83,h91]
 refine .skip (.seq (.rg [] ?_))
 refine .ret ⟨.inr rfl,Out.pP Tryz.results160 ?_⟩;rw[R3 (g0 (by simpa using h15) (by simpa using h19) (by simpa using h32))];simp at h68 h71 h77 h83 h91;simp[pp_,twI,h68,h71,h77,h83,Int.not_lt.2 h91]
attribute [local go_sem] a2_ al_ in
theorem ak8_ (d:Nat):∀(e:E) (N:List Str) (M:List Int),form e d=true→N.length=M.length→N.length≤1000000→ACall En 248 [.ag (eC e),.sl false (ai_ N),.sl false (inR M)] [] [.i .i64 (rk e N M).1,.b (rk e N M).2] []:=by
 induction d with
 |zero=>intro e N M h;have:=(aj_ h).1;omega
 |succ d ih=>
 intro e N M h hl hn
 have e1:((d+1:Nat):Int) - 1=(d:Int):=by omega
 have g3:e.kind=3→e.kids.length=2∧form (e.kids.getD 0 E0) d=true∧form (e.kids.getD 1 E0) d=true∧fn_ e.s=true:=fun hk=>by
  rcases (aj_ h).2 with⟨k1,_⟩|⟨k1,_⟩|⟨k1,h1,h2,h3,h4,h5⟩|⟨k1,_⟩<;>try omega
  rw[e1]at h4 h5;exact⟨h3,h4,h5,h2⟩
 have g4:e.kind=4→e.kids.length=1∧form (e.kids.getD 0 E0) d=true:=fun hk=>by
  rcases (aj_ h).2 with⟨k1,_⟩|⟨k1,_⟩|⟨k1,_⟩|⟨k1,h1,h2,h3,h4⟩<;>try omega
  rw[e1]at h4;exact⟨h3,h4⟩
 have g0:¬e.kind=1→¬e.kind=2→¬e.kind=4→e.kind=3:=fun a b c=>by
  rcases (aj_ h).2 with⟨k1,_⟩|⟨k1,_⟩|⟨k1,_⟩|⟨k1,_⟩<;>omega
 have hb:=py_ N e.s
 have Q:e.kind=3→(-1000000≤(rk (e.kids.getD 0 E0) N M).1∧(rk (e.kids.getD 0 E0) N M).1≤1000000)∧(-1000000≤(rk (e.kids.getD 1 E0) N M).1∧(rk (e.kids.getD 1 E0) N M).1≤1000000):=fun hk=>
  ⟨agy_ d _ N M (g3 hk).2.1,agy_ d _ N M (g3 hk).2.2.1⟩
 have P:=fun hk=>ajl_ _ _ (Q hk).1 (Q hk).2
 have R1:=@aig_ e
 have R2:=@abk_ e
 have R3:e.kind=3→rk e N M=pp_ e.s (rk (e.kids.getD 0 E0) N M) (rk (e.kids.getD 1 E0) N M):=fun hk=>vx_ hk (g3 hk).1 N M
 have R4:e.kind=4→rk e N M=rk (e.kids.getD 0 E0) N M:=fun hk=>amb_ hk (g4 hk).1 N M
 refine aa_ [] Tryz.func248 Tryz.ntmps248 fun C=>?_
 refine .seq (.rg [] ?_)
 refine .seq (.seq (.rg [] ?_))
 refine .block (.seq (.rg [] ?_))
 refine .cB (fun h15=>?_) fun h15=>?_
 ·refine .seq (.rg [] ?_)
  refine .ret ⟨.inr rfl,Out.pP Tryz.results248 ?_⟩;rw[R1 (by simpa using h15)]
 refine .seq (.rg [] ?_)
 refine .cB (fun h19=>?_) fun h19=>?_
 ·refine .seq (.rg [ab_ (amg_ N e.s (by omega))] ?_)
  refine .seq (.seq (.rg [] ?_))
  refine .cB (fun h26=>?_) fun h26=>?_
  ·refine .seq (.rg [] ?_)
   refine .ret ⟨.inr rfl,Out.pP Tryz.results248 ?_⟩;rw[R2 (by simpa using h19),if_pos (by simpa using h26)]
  refine .skip (.seq (.rgo [ab_ (aa0_ (M.getD (fj_ N e.s).toNat 0))] ?_ ?_ (h:=by simp only[go_sem,seval,c1_ (show(fj_ N e.s).toNat<M.length by simp at h26;omega)];rfl)))
  ·simp at h26;(try simp);omega
  refine .ret ⟨.inr rfl,Out.pP Tryz.results248 ?_⟩;rw[R2 (by simpa using h19),if_neg (by simpa using h26)]
 refine .seq (.rg [] ?_)
 refine .cB (fun h32=>?_) fun h32=>?_
 ·refine .seq (.rgo [ab_ (ih (e.kids.getD 0 E0) N M (g4 (by simpa using h32)).2 hl hn)] ?_ ?_ (h:=by simp only[go_sem,seval,b8_ (show 0<e.kids.length by have:=g4 (by simpa using h32);omega)];rfl))
  ·have:=g4 (by simpa using h32);simp;omega
  refine .ret ⟨.inr rfl,Out.pP Tryz.results248 ?_⟩;rw[R4 (by simpa using h32)]
 refine .skip (.seq (.rgo [ab_ (ih (e.kids.getD 0 E0) N M (g3 (g0 (by simpa using h15) (by simpa using h19) (by simpa using h32))).2.1 hl hn)] ?_ ?_ (h:=by simp only[go_sem,seval,b8_ (show 0<e.kids.length by have:=g3 (g0 (by simpa using h15) (by simpa using h19) (by simpa using h32));omega)];rfl)))
 ·have:=g3 (g0 (by simpa using h15) (by simpa using h19) (by simpa using h32));simp;omega
 refine .seq (.rgo [ab_ (ih (e.kids.getD 1 E0) N M (g3 (g0 (by simpa using h15) (by simpa using h19) (by simpa using h32))).2.2.1 hl hn)] ?_ ?_ (h:=by simp only[go_sem,seval,b8_ (show 1<e.kids.length by have:=g3 (g0 (by simpa using h15) (by simpa using h19) (by simpa using h32));omega)];rfl))
 ·have:=g3 (g0 (by simpa using h15) (by simpa using h19) (by simpa using h32));simp;omega
 refine .seq (.seq (.rg [] ?_))
 refine .cB (fun h68=>?_) fun h68=>?_
 ·refine .seq (.rg [] ?_)
  refine .ret ⟨.inr rfl,Out.pP Tryz.results248 ?_⟩;rw[R3 (g0 (by simpa using h15) (by simpa using h19) (by simpa using h32))];simp at h68;(rcases h68 with h|h<;>simp[pp_,h])
 refine .skip (.seq (.rg [ab_ (a1w_ e.s (rk (e.kids.getD 0 E0) N M).1 (rk (e.kids.getD 1 E0) N M).1 (Q (g0 (by simpa using h15) (by simpa using h19) (by simpa using h32))).1 (Q (g0 (by simpa using h15) (by simpa using h19) (by simpa using h32))).2)] ?_))
 refine .ret ⟨.inr rfl,Out.pP Tryz.results248 ?_⟩;rw[R3 (g0 (by simpa using h15) (by simpa using h19) (by simpa using h32))];simp at h68;simp[pp_,h68]
end
section
def bLR (l:List Bl):List (List V):=l.map bC
theorem js_ (l:List Bl):(bLR l).length=l.length:=by simp[bLR]
theorem azl_ (b:Bl):bu_ (bC b)=true:=by rw[cp_];simp only[bu_,V.pure,hr_,Bool.and_self]
theorem i8_ (l:List Bl):bg_ (bLR l)=true:=kx_.2 fun r hr=>by obtain⟨s,_,rfl⟩:=List.mem_map.1 hr;exact azl_ s
theorem tl_ {l:List Bl} {k:Nat} (h:k<l.length):(bLR l).getD k []=bC (l.getD k B0):=by
 simp[bLR,List.getD_eq_getElem?_getD,List.getElem?_eq_getElem h]
theorem axy_ (a b:List Bl):bLR (a++b)=bLR a++bLR b:=by simp[bLR]
def allB (l:List Bl):Bool:=l.all smb
theorem amu_ {l:List Bl} (h:allB l=true) {k:Nat} (hk:k<l.length):smb (l.getD k B0)=true:=List.all_eq_true.1 h _ (ag_ hk)
attribute [local go_sem] cp_ in
theorem ai7_ (b:Bl) (hs:smb b=true):ACall En 224 [.ag (bC b)] [] [.b (!bok b)] []:=by
 refine aa_ [] Tryz.func224 Tryz.ntmps224 fun C=>?_
 refine .seq (.rg [] ?_)
 refine .seq (.rg [ab_ (rc_ b hs)] ?_)
 refine .ret ⟨.inr rfl,Out.pP Tryz.results224 ?_⟩;trivial
attribute [local go_sem] js_ i8_ cp_ in
theorem axj_ (l:List Bl) (hs:allB l=true) (hl:l.length<4611686018427387904):ACall En 273 [.sl false (bLR l),.fn (.func 224) [] []] [] [.i .i64 (n6_ (fun s=>!bok s) l)] []:=by
 refine aa_ [] Tryz.func273 Tryz.ntmps273 fun C=>?_
 refine .seq (.rg [] ?_)
 refine .seq (.seq (.rg [] ?_))
 refine .block (.loopK (fun k:Nat=>⟨[.sl false (bLR l),.fn (.func 224) [] [],.no,.no,.no,.no,.no,.i .i64 l.length,.i .i64 k,.no,.no,.no,.no,.no,.no,.no,.no,.no,.no],ae_ [],us []⟩) (fun k:Nat=>k≤l.length∧(l.take k).any (fun s=>!bok s)=false) (fun k:Nat=>l.length - k) (0) ?_ ?_ (fun k hI=>?_))
 ·simp
 ·refine Can.wh ?_;trivial
 refine .seq (.rg [] ?_)
 refine .seq (.cB (fun h9=>?_) fun h9=>?_)
 ·refine .skip (.seq (.block (.seq (.rg [] ?_))))
  refine .seq (.rgo [a0_ (k<l.length) (fun h=>ai7_ (l.getD k B0) (amu_ hs h))] ?_ ?_ (h:=by simp only[go_sem,seval,tl_ (show k<l.length by simpa using h9)];rfl))
  ·simp only[decide_eq_true_eq]at h9;simp;omega
  refine .cB (fun h16=>?_) fun h16=>?_
  ·refine .seq (.rg [] ?_)
   refine .ret ⟨.inr rfl,Out.pP Tryz.results273 ?_⟩;simp at h9;rw[o1_ (d:=B0) h9 hI.2 h16]
  refine .skip (.rg [] ?_)
  refine⟨k+1,?_,?_,?_⟩
  ·simp at h9;refine⟨by omega,?_⟩;rw[i6_ (d:=B0) h9,hI.2,h16];rfl
  ·simp at h9;omega
  refine Can.wh ?_;rw[ac_ (by omega) (by omega)];simp
 refine .exit (.seq (.rg [] ?_))
 refine .ret ⟨.inr rfl,Out.pP Tryz.results273 ?_⟩;simp at h9;have h0:=hI.2;rw[List.take_of_length_le h9]at h0;rw[iu_ h0]
attribute [local go_sem] i8_ in
theorem aau_ (l:List Bl) (hs:allB l=true) (hl:l.length<4611686018427387904):ACall En 223 [.sl false (bLR l),.fn (.func 224) [] []] [] [.b (l.any fun s=>!bok s)] []:=by
 refine aa_ [] Tryz.func223 Tryz.ntmps223 fun C=>?_
 refine .seq (.rg [] ?_)
 refine .seq (.rg [ab_ (axj_ l hs hl)] ?_)
 refine .ret ⟨.inr rfl,Out.pP Tryz.results223 ?_⟩;rw[m6_]
theorem anyB (l:List Bl):(l.any fun s=>!bok s)=!l.all bok:=by rw[List.any_eq_not_all_not];simp
theorem da_ {l:List Bl} (h:lok l=true):1≤l.length∧l.length≤16∧∀k,k<l.length→bok (l.getD k B0)=true:=by
 simp only[lok,Bool.and_eq_true,decide_eq_true_eq,List.all_eq_true]at h
 exact⟨h.1.1,h.1.2,fun k hk=>h.2 _ (ag_ hk)⟩
theorem vz_ {b:Bl} (h:bok b=true) (k:¬b.kind=0):eok b.expr=true:=by
 have h0:cx_ b=true:=by simp only[bok,Bool.and_eq_true]at h;exact h.1
 unfold cx_ at h0
 by_cases k1:b.kind=1
 ·simp[k1]at h0;exact ca_ h0.1.2
 by_cases k2:b.kind=2
 ·simp[k2]at h0;exact ca_ h0.1.2
 by_cases k3:b.kind=3
 ·simp[k3]at h0;exact ca_ h0.1.2
 simp[k,k1,k2,k3]at h0
theorem ab5_ {b:Bl} (h:bok b=true) (k:b.kind=3):eok b.thn=true:=by
 have h0:cx_ b=true:=by simp only[bok,Bool.and_eq_true]at h;exact h.1
 unfold cx_ at h0
 simp[k]at h0;exact ca_ h0.2
theorem aub_ {b:Bl} (h:bok b=true):b.kind=0∨b.kind=1∨b.kind=2∨b.kind=3:=by
 have h0:cx_ b=true:=by simp only[bok,Bool.and_eq_true]at h;exact h.1
 unfold cx_ at h0
 by_cases k0:b.kind=0
 ·exact .inl k0
 by_cases k1:b.kind=1
 ·exact .inr (.inl k1)
 by_cases k2:b.kind=2
 ·exact .inr (.inr (.inl k2))
 by_cases k3:b.kind=3
 ·exact .inr (.inr (.inr k3))
 simp[k0,k1,k2,k3]at h0
theorem q2_ {r:Rs} {b:Bl} (k:b.kind=0):d0_ r b=r:=by unfold d0_;split<;>simp_all
theorem zd_ {r:Rs} {b:Bl} (h:r.ok=true) (k:¬b.kind=0) (h2:(c2_ b r.names r.nums).2.2=false):d0_ r b={ r with ok:=false }:=by simp[d0_,h,k,h2]
theorem apm_ {r:Rs} {b:Bl} (h:r.ok=true) (k:b.kind=1) (h2:(c2_ b r.names r.nums).2.2=true):d0_ r b={ r with names:=r.names++[b.name],nums:=r.nums++[(rk b.expr r.names r.nums).1] }:=by
 have:(c2_ b r.names r.nums).1=(rk b.expr r.names r.nums).1:=by unfold c2_;split<;>rfl
 simp[d0_,h,k,h2,this]
theorem ao5_ {r:Rs} {b:Bl} (h:r.ok=true) (k:¬b.kind=0) (k1:¬b.kind=1) (h2:(c2_ b r.names r.nums).2.2=true) (h3:b.kind=2∨¬(rk b.expr r.names r.nums).1=0):d0_ r b={ r with said:=r.said++[(c2_ b r.names r.nums).2.1] }:=by
 have e:(c2_ b r.names r.nums).1=(rk b.expr r.names r.nums).1:=by unfold c2_;split<;>rfl
 unfold d0_
 rw[if_neg (by simp[h]),if_neg k,if_neg (by simp[h2]),if_neg k1,if_pos (by rw[e];exact h3)]
theorem amw_ {r:Rs} {b:Bl} (h:r.ok=true) (k:¬b.kind=0) (k1:¬b.kind=1) (h2:(c2_ b r.names r.nums).2.2=true) (h3:¬b.kind=2) (h4:(rk b.expr r.names r.nums).1=0):d0_ r b=r:=by
 have e:(c2_ b r.names r.nums).1=(rk b.expr r.names r.nums).1:=by unfold c2_;split<;>rfl
 unfold d0_
 rw[if_neg (by simp[h]),if_neg k,if_neg (by simp[h2]),if_neg k1,if_neg (by rw[e];simp[h3,h4])]
theorem dn_ (l:List Int) (n:Int):inR (l++[n])=inR l++[[.i .i64 n]]:=by rw[tx_];rfl
theorem kz_ (l:List Str) (s:Str):ai_ (l++[s])=ai_ l++[[.s s]]:=by rw[fr_];rfl
attribute [local go_sem] al_ in
theorem ni_ (l:List Int) (n:Nat) (hn:n=l.length) (hl:l.length<1099511627776):ACall En 137 [.ow 0 1 0 n] [⟨3,1,inR l⟩] [.ow 0 1 0 n] [⟨3,1,inR l⟩]:=by
 refine aa_ [0] Tryz.func137 Tryz.ntmps137 fun C=>?_
 refine .seq (.rgo [] ?_ ?_)
 ·subst hn;simp[a2_]
 refine .seq (.rgo [] ?_ ?_)
 ·subst hn;simp[a2_]
 refine .ret ⟨.inr rfl,Out.mP Tryz.results137 ?_ ?_⟩
 ·simp
 trivial
theorem eh_ {l:List Bl} {k:Nat} (hk:k≤l.length) (h16:l.length≤16):(ar_ (l.take k)).names.length=(ar_ (l.take k)).nums.length∧(ar_ (l.take k)).names.length≤16∧(ar_ (l.take k)).said.length≤16:=by
 have:=ph_ l k hk;omega
theorem g6_ {l:List Bl} {k:Nat} (hk:k<l.length) (h:(l.getD k B0).kind=0):ar_ (l.take (k+1))=ar_ (l.take k):=by rw[g9_ hk,q2_ h]
theorem ji_ {l:List Bl} {k:Nat} (hk:k<l.length) (h:(ar_ (l.take k)).ok=true) (h1:(l.getD k B0).kind=1) (h2:(c2_ (l.getD k B0) (ar_ (l.take k)).names (ar_ (l.take k)).nums).2.2=true) :
  ar_ (l.take (k+1))={ ar_ (l.take k)with names:=(ar_ (l.take k)).names++[(l.getD k B0).name],nums:=(ar_ (l.take k)).nums++[(rk (l.getD k B0).expr (ar_ (l.take k)).names (ar_ (l.take k)).nums).1] }:=by rw[g9_ hk,apm_ h h1 h2]
theorem fq_ {l:List Bl} {k:Nat} (hk:k<l.length) (h:(ar_ (l.take k)).ok=true) (h0:¬(l.getD k B0).kind=0) (h1:¬(l.getD k B0).kind=1) (h2:(c2_ (l.getD k B0) (ar_ (l.take k)).names (ar_ (l.take k)).nums).2.2=true) (h3:(l.getD k B0).kind=2∨¬(rk (l.getD k B0).expr (ar_ (l.take k)).names (ar_ (l.take k)).nums).1=0) :
  ar_ (l.take (k+1))={ ar_ (l.take k)with said:=(ar_ (l.take k)).said++[(c2_ (l.getD k B0) (ar_ (l.take k)).names (ar_ (l.take k)).nums).2.1] }:=by rw[g9_ hk,ao5_ h h0 h1 h2 h3]
theorem he_ {l:List Bl} {k:Nat} (hk:k<l.length) (h:(ar_ (l.take k)).ok=true) (h0:¬(l.getD k B0).kind=0) (h1:¬(l.getD k B0).kind=1) (h2:(c2_ (l.getD k B0) (ar_ (l.take k)).names (ar_ (l.take k)).nums).2.2=true) (h3:¬(l.getD k B0).kind=2) (h4:(rk (l.getD k B0).expr (ar_ (l.take k)).names (ar_ (l.take k)).nums).1=0) :
  ar_ (l.take (k+1))=ar_ (l.take k):=by rw[g9_ hk,amw_ h h0 h1 h2 h3 h4]
theorem ng_ {l:List Bl} {k:Nat} (hl:lok l=true) (hk:k<l.length) (h:(ar_ (l.take k)).ok=true) (h0:¬(l.getD k B0).kind=0) (h2:(c2_ (l.getD k B0) (ar_ (l.take k)).names (ar_ (l.take k)).nums).2.2=false):jd_ l=((ar_ (l.take k)).said,false):=by
 have e:=g9_ hk
 rw[zd_ h h0 h2]at e
 have e2:=aaa_ (l:=l) (k:=k+1) (by omega) (by rw[e])
 unfold jd_;rw[if_pos hl,e2,e]
theorem of_ {l:List Bl} {k:Nat} (hl:lok l=true) (hk:l.length≤k) (h:(ar_ (l.take k)).ok=true):jd_ l=((ar_ (l.take k)).said,true):=by
 rw[List.take_of_length_le hk]at h ⊢
 unfold jd_;rw[if_pos hl,h]
theorem os_ {l:List Bl} (h:lok l=false):jd_ l=([],false):=by unfold jd_;rw[h];rfl
theorem aia_ (l:List Bl):lok l=!(!(decide ((1:Int)≤l.length)&&decide ((l.length:Int)≤16))||l.any fun s=>!bok s):=by
 rw[anyB];simp only[lok,Bool.not_or,Bool.not_not,dt_];rfl
attribute [local go_sem] js_ i8_ a2_ al_ cp_ in
theorem ac6_ (l:List Bl) (hs:allB l=true) (hl:l.length<4611686018427387904):ACall En 157 [.sl false (bLR l)] [] [.ow 0 1 0 (jd_ l).1.length,.b (jd_ l).2] [⟨3,1,inR (jd_ l).1⟩]:=by
 have F1:∀k,lok l=true→k<l.length→¬(l.getD k B0).kind=0→form (l.getD k B0).expr ((5:Nat):Int)=true:=fun k h hk hk0=>ao_ (vz_ ((da_ h).2.2 k hk) hk0)
 have F2:∀k,lok l=true→k<l.length→(l.getD k B0).kind=3→form (l.getD k B0).thn ((5:Nat):Int)=true:=fun k h hk hk0=>ao_ (ab5_ ((da_ h).2.2 k hk) hk0)
 refine aa_ [22] Tryz.func157 Tryz.ntmps157 fun C=>?_
 refine .seq (.rg [] ?_)
 refine .seq (.seq (.rg [ab_ (ta_ l.length 1 16),ab_ (aau_ l hs hl)] ?_))
 refine .cB (fun h19=>?_) fun h19=>?_
 ·refine .seq (.rg [] ?_)
  refine .can (Can.ownSlot 2 22 3 1 (by simp only[go_sem,seval]<;>rfl) (by simp only[go_sem,seval]) (by simp only[go_sem,seval]<;>rfl)) ?_
  refine .ret ⟨.inr rfl,Out.mP Tryz.results157 ?_ ?_⟩
  ·rw[os_ (by rw[aia_,h19];rfl)];try simp
  rw[os_ (by rw[aia_,h19];rfl)];simp[inR]
 refine .skip (.seq (.rg [] ?_))
 refine .seq (.rg [] ?_)
 refine .seq (.seq (.rg [] ?_))
 refine .block (.loopK (fun k:Nat=>⟨[.sl false (bLR l),.no,.no,.no,.ow 20 1 0 (ar_ (l.take k)).names.length,.ow 21 1 0 (ar_ (l.take k)).nums.length,.ow 22 1 0 (ar_ (l.take k)).said.length,.no,.no,.no,.no,.no,.no,.no,.no,.no,.no,.no,.no,.no,.sl false (bLR l),.i .i64 l.length,.i .i64 k,.no,.no,.no,.no,.no,.no,.no,.no,.no,.no,.no,.no,.no,.no,.no,.no,.no,.no,.no,.no,.no,.no,.no,.no,.no,.no,.no,.no,.no,.no,.no,.no,.no,.no,.no,.no,.no,.no,.no,.no,.no,.no,.no,.no,.no,.no,.no,.no,.no,.no,.no,.no,.no,.no,.no,.no,.no,.no,.no],ae_ [(20,⟨9,1,ai_ (ar_ (l.take k)).names⟩),(21,⟨3,1,inR (ar_ (l.take k)).nums⟩),(22,⟨3,1,inR (ar_ (l.take k)).said⟩)],us [20,21,22]⟩) (fun k:Nat=>k≤l.length∧(ar_ (l.take k)).ok=true∧lok l=true) (fun k:Nat=>l.length - k) (0) ?_ ?_ (fun k hI=>?_))
 ·exact⟨Nat.zero_le _,by simp[ar_],by rw[aia_,h19];rfl⟩
 ·refine Can.trans (Can.ownSlot 4 20 9 1 (by simp only[go_sem,seval]<;>rfl) (by simp only[go_sem,seval]) (by simp only[go_sem,seval]<;>rfl)) ?_
  refine Can.trans (Can.ownSlot 5 21 3 1 (by simp only[go_sem,seval]<;>rfl) (by simp only[go_sem,seval]) (by simp only[go_sem,seval]<;>rfl)) ?_
  refine Can.trans (Can.ownSlot 6 22 3 1 (by simp only[go_sem,seval]<;>rfl) (by simp only[go_sem,seval]) (by simp only[go_sem,seval]<;>rfl)) ?_
  refine Can.wk ?_ ?_
  ·simp[ar_]
  simp[ar_,ai_,inR]
 refine .seq (.rg [] ?_)
 refine .seq (.cB (fun h23=>?_) fun h23=>?_)
 ·refine .skip (.seq (.block (.seq (.rgo [] ?_ ?_ (h:=by simp only[go_sem,seval,tl_ (show k<l.length by simpa using h23),cp_];rfl)))))
  ·simp at h23;simp;omega
  refine .seq (.seq (.rg [] ?_))
  refine .cB (fun h28=>?_) fun h28=>?_
  ·refine .exit (.rg [] ?_)
   refine⟨k+1,?_,?_,?_⟩
   ·have hk:k<l.length:=(by simpa using h23);have e:=g6_ hk (by simpa using h28);exact⟨by omega,by rw[e];exact hI.2.1,hI.2.2⟩
   ·simp at h23;omega
   refine Can.wk ?_ ?_
   ·(have hk:k<l.length:=(by simpa using h23));(have e:=g6_ hk (by simpa using h28));rw[e,ac_ (by omega) (by omega)];simp
   (have hk:k<l.length:=(by simpa using h23));(have e:=g6_ hk (by simpa using h28));rw[e];simp
  refine .skip (.seq (.rgo [kv_ (o2_ 5 (l.getD k B0).expr (ar_ (l.take k)).names (ar_ (l.take k)).nums (F1 k hI.2.2 (by simpa using h23) (by simpa using h28)) (eh_ hI.1 (da_ hI.2.2).2.1).1 (by have:=(eh_ hI.1 (da_ hI.2.2).2.1).2.1;omega))] ?_ ?_))
  ·(first|(simp[List.take_of_length_le,af_,a2_,ad_];done))
  refine .seq (.rg [] ?_)
  refine .seqJ (fun q:Int × Bool=>⟨[.sl false (bLR l),.no,.no,.no,.ow 20 1 0 (ar_ (l.take k)).names.length,.ow 21 1 0 (ar_ (l.take k)).nums.length,.ow 22 1 0 (ar_ (l.take k)).said.length,.no,.pt 18 10 0 0,.i .i64 (rk (l.getD k B0).expr (ar_ (l.take k)).names (ar_ (l.take k)).nums).1,.b q.2,.i .i64 q.1,.no,.no,.no,.no,.no,.no,.no,.no,.sl false (bLR l),.i .i64 l.length,.i .i64 k,.no,.no,.no,.no,.no,.no,.no,.no,.no,.no,.no,.no,.no,.no,.no,.no,.no,.no,.no,.no,.no,.no,.no,.no,.no,.no,.no,.no,.no,.no,.no,.no,.no,.no,.no,.no,.no,.no,.no,.no,.no,.no,.no,.no,.no,.no,.no,.no,.no,.no,.no,.no,.no,.no,.no,.no,.no,.no,.no],ae_ [(18,⟨147,10,[bC (l.getD k B0)]⟩),(20,⟨9,1,ai_ (ar_ (l.take k)).names⟩),(21,⟨3,1,inR (ar_ (l.take k)).nums⟩),(22,⟨3,1,inR (ar_ (l.take k)).said⟩)],us [20,21,22,18]⟩) (fun q:Int × Bool=>q=((c2_ (l.getD k B0) (ar_ (l.take k)).names (ar_ (l.take k)).nums).2.1,(c2_ (l.getD k B0) (ar_ (l.take k)).names (ar_ (l.take k)).nums).2.2)) ?_ (fun q hJ=>?_)
  ·refine .seq (.rg [] ?_)
   refine .cB (fun h43=>?_) fun h43=>?_
   ·refine .rgo [kv_ (o2_ 5 (l.getD k B0).thn (ar_ (l.take k)).names (ar_ (l.take k)).nums (F2 k hI.2.2 (by simpa using h23) (by simp at h43;exact h43.2)) (eh_ hI.1 (da_ hI.2.2).2.1).1 (by have:=(eh_ hI.1 (da_ hI.2.2).2.1).2.1;omega))] ?_ ?_
    ·(first|(simp[List.take_of_length_le,af_,a2_,ad_];done))
    refine Exists.intro (((rk (l.getD k B0).thn (ar_ (l.take k)).names (ar_ (l.take k)).nums).1,(rk (l.getD k B0).thn (ar_ (l.take k)).names (ar_ (l.take k)).nums).2)) ⟨?_,?_⟩
    ·unfold c2_;first|(rw[if_pos (by simp at h43 ⊢;exact h43)];done)|(rw[if_neg (by simp at h43 ⊢;exact h43)];done)
    exact Can.wl
   refine .skip ?_
   refine Exists.intro (((rk (l.getD k B0).expr (ar_ (l.take k)).names (ar_ (l.take k)).nums).1,(rk (l.getD k B0).expr (ar_ (l.take k)).names (ar_ (l.take k)).nums).2)) ⟨?_,?_⟩
   ·unfold c2_;first|(rw[if_pos (by simp at h43 ⊢;exact h43)];done)|(rw[if_neg (by simp at h43 ⊢;exact h43)];done)
   exact Can.wl
  refine .seq (.seq (.rg [] ?_))
  refine .cB (fun h53=>?_) fun h53=>?_
  ·refine .seq (.rg [at_ [22] [] (ni_ (ar_ (l.take k)).said (ar_ (l.take k)).said.length rfl (by have:=(eh_ hI.1 (da_ hI.2.2).2.1).2.2;omega))] ?_)
   refine .ret ⟨.inr rfl,Out.mP Tryz.results157 ?_ ?_⟩
   ·rw[ng_ hI.2.2 (by simpa using h23) hI.2.1 (by simpa using h28) (by rw[hJ]at h53;simpa using h53)];try simp
   rw[ng_ hI.2.2 (by simpa using h23) hI.2.1 (by simpa using h28) (by rw[hJ]at h53;simpa using h53)];(try simp[b7_,al_])
  refine .skip (.seq (.rg [] ?_))
  refine .cB (fun h58=>?_) fun h58=>?_
  ·refine .rgo [] ?_ ?_
   ·have:=eh_ hI.1 (da_ hI.2.2).2.1;simp;omega
   refine .rg [] ?_
   refine⟨k+1,?_,?_,?_⟩
   ·have hk:k<l.length:=(by simpa using h23);have e:=ji_ hk hI.2.1 (by simpa using h58) (by rw[hJ]at h53;simpa using h53);exact⟨by omega,by rw[e];exact hI.2.1,hI.2.2⟩
   ·simp at h23;omega
   refine Can.trans (Can.sX 73 20) ?_
   refine Can.trans (Can.sX 77 21) ?_
   refine Can.wk ?_ ?_
   ·(have hk:k<l.length:=(by simpa using h23));(have e:=ji_ hk hI.2.1 (by simpa using h58) (by rw[hJ]at h53;simpa using h53));rw[e,ac_ (by omega) (by omega)];simp
   (have hk:k<l.length:=(by simpa using h23));(have e:=ji_ hk hI.2.1 (by simpa using h58) (by rw[hJ]at h53;simpa using h53));rw[e];simp[kz_,dn_]
  refine .seq (.rg [] ?_)
  refine .cB (fun h74=>?_) fun h74=>?_
  ·refine .rgo [] ?_ ?_
   ·have:=eh_ hI.1 (da_ hI.2.2).2.1;simp;omega
   refine .rg [] ?_
   refine⟨k+1,?_,?_,?_⟩
   ·have hk:k<l.length:=(by simpa using h23);have e:=fq_ hk hI.2.1 (by simpa using h28) (by simpa using h58) (by rw[hJ]at h53;simpa using h53) (by simp at h74;exact h74);exact⟨by omega,by rw[e];exact hI.2.1,hI.2.2⟩
   ·simp at h23;omega
   refine Can.trans (Can.sX 88 22) ?_
   refine Can.wk ?_ ?_
   ·(have hk:k<l.length:=(by simpa using h23));(have e:=fq_ hk hI.2.1 (by simpa using h28) (by simpa using h58) (by rw[hJ]at h53;simpa using h53) (by simp at h74;exact h74));rw[e,ac_ (by omega) (by omega)];simp
   (have hk:k<l.length:=(by simpa using h23));(have e:=fq_ hk hI.2.1 (by simpa using h28) (by simpa using h58) (by rw[hJ]at h53;simpa using h53) (by simp at h74;exact h74));rw[e];simp[dn_,hJ]
  refine .skip (.rg [] ?_)
  refine⟨k+1,?_,?_,?_⟩
  ·have hk:k<l.length:=(by simpa using h23);have e:=he_ hk hI.2.1 (by simpa using h28) (by simpa using h58) (by rw[hJ]at h53;simpa using h53) (by simp at h74;exact h74.1) (by simp at h74;exact h74.2);exact⟨by omega,by rw[e];exact hI.2.1,hI.2.2⟩
  ·simp at h23;omega
  refine Can.wk ?_ ?_
  ·(have hk:k<l.length:=(by simpa using h23));(have e:=he_ hk hI.2.1 (by simpa using h28) (by simpa using h58) (by rw[hJ]at h53;simpa using h53) (by simp at h74;exact h74.1) (by simp at h74;exact h74.2));rw[e,ac_ (by omega) (by omega)];simp
  (have hk:k<l.length:=(by simpa using h23));(have e:=he_ hk hI.2.1 (by simpa using h28) (by simpa using h58) (by rw[hJ]at h53;simpa using h53) (by simp at h74;exact h74.1) (by simp at h74;exact h74.2));rw[e];simp
 refine .exit (.seq (.rg [at_ [22] [] (ni_ (ar_ (l.take k)).said (ar_ (l.take k)).said.length rfl (by have:=(eh_ hI.1 (da_ hI.2.2).2.1).2.2;omega))] ?_))
 refine .ret ⟨.inr rfl,Out.mP Tryz.results157 ?_ ?_⟩
 ·rw[of_ hI.2.2 (by simpa using h23) hI.2.1];try simp
 rw[of_ hI.2.2 (by simpa using h23) hI.2.1];(try simp[b7_,al_])
end
section
theorem al3_ (d:Nat):∀(e:E) (N:List Str) (M:List Int),form e d=true→rk (bare e) N M=rk e N M:=by
 induction d with
 |zero=>intro e N M h;have:=(aj_ h).1;omega
 |succ d ih=>
  intro e N M h
  have hd:((d+1:Nat):Int) - 1=d:=by omega
  have h0:=h
  rw[mq_]at h0
  simp only[Bool.and_eq_true]at h0
  obtain⟨⟨_,hsh⟩,hf⟩:=h0
  rw[hd]at hf
  by_cases k1:e.kind=1
  ·have hk:e.kids=[]:=by
    unfold shape at hsh;simp[k1]at hsh;exact hsh.2
   rw[eq_ (by omega) hk]
  by_cases k2:e.kind=2
  ·have hk:e.kids=[]:=by
    unfold shape at hsh;simp[k2]at hsh;exact hsh.2
   rw[eq_ (by omega) hk]
  by_cases k3:e.kind=3
  ·have hk:e.kids.length=2:=by
    unfold shape at hsh;simp[k3]at hsh;exact hsh.2
   have f0:=iv_ hf _ (ag_ (l:=e.kids) (k:=0) (d:=E0) (by omega))
   have f1:=iv_ hf _ (ag_ (l:=e.kids) (k:=1) (d:=E0) (by omega))
   rw[l2_ k3 hk,vx_ k3 hk,vx_ (by rfl) (by rfl)]
   show pp_ e.s (rk (bare (e.kids.getD 0 E0)) N M) (rk (bare (e.kids.getD 1 E0)) N M)=_
   rw[ih _ N M f0,ih _ N M f1]
  by_cases k4:e.kind=4
  ·have hk:e.kids.length=1:=by
    unfold shape at hsh;simp[k4]at hsh;exact hsh.2
   have f0:=iv_ hf _ (ag_ (l:=e.kids) (k:=0) (d:=E0) (by omega))
   rw[p2_ k4 hk,amb_ k4 hk,ih _ N M f0]
  unfold shape at hsh;simp[k1,k2,k3,k4]at hsh
abbrev ofS (s:Sl):Bl:=⟨s.kind,s.name,s.expr,s.thn⟩
theorem mk_ {s:Sl} (h:sok s=true) (k:¬s.kind=0):eok s.expr=true:=by
 have h0:=(p8_ h).1
 unfold b9_ at h0
 by_cases k1:s.kind=1
 ·simp[k1]at h0;exact h0.1.2
 by_cases k2:s.kind=2
 ·simp[k2]at h0;exact h0.1.2
 by_cases k3:s.kind=3
 ·simp[k3]at h0;exact h0.1.2
 simp[k,k1,k2,k3]at h0
theorem o5_ {s:Sl} (h:sok s=true) (k:s.kind=3):eok s.thn=true:=by
 have h0:=(p8_ h).1
 unfold b9_ at h0
 simp[k]at h0;exact h0.2
theorem af4_ {s:Sl} (h:sok s=true):s.kind=0∨s.kind=1∨s.kind=2∨s.kind=3:=by
 have h0:=(p8_ h).1
 unfold b9_ at h0
 by_cases k0:s.kind=0
 ·exact .inl k0
 by_cases k1:s.kind=1
 ·exact .inr (.inl k1)
 by_cases k2:s.kind=2
 ·exact .inr (.inr (.inl k2))
 by_cases k3:s.kind=3
 ·exact .inr (.inr (.inr k3))
 simp[k0,k1,k2,k3]at h0
theorem as0_ {s:Sl} (h:sok s=true) (k:¬s.kind=0) (N:List Str) (M:List Int):c2_ (bof s) N M=c2_ (ofS s) N M:=by
 have e1:rk (bof s).expr N M=rk s.expr N M:=by
  show rk (if s.kind=0 then E0 else bare s.expr) N M=_
  rw[if_neg k];exact al3_ 5 _ N M (ao_ (mk_ h k))
 unfold c2_
 by_cases k3:s.kind=3
 ·have e2:rk (bof s).thn N M=rk s.thn N M:=by
   show rk (if s.kind=3 then bare s.thn else E0) N M=_
   rw[if_pos k3];exact al3_ 5 _ N M (ao_ (o5_ h k3))
  rw[e1,e2];rfl
 have q1:¬((rk (bof s).expr N M).2=true∧(bof s).kind=3):=fun q=>k3 q.2
 have q2:¬((rk (ofS s).expr N M).2=true∧(ofS s).kind=3):=fun q=>k3 q.2
 rw[if_neg q1,if_neg q2,e1]
theorem apj_ {s:Sl} (h:sok s=true) (r:Rs):d0_ r (bof s)=d0_ r (ofS s):=by
 by_cases k:s.kind=0
 ·rw[q2_ (show(bof s).kind=0 from k),q2_ (show(ofS s).kind=0 from k)]
 unfold d0_
 rw[as0_ h k];rfl
theorem ady_:∀(l:List Sl) (r:Rs),l.all sok=true→(l.map bof).foldl d0_ r=(l.map ofS).foldl d0_ r
 |[],_,_=>rfl
 |s::l,r,h=>by
  simp only[List.all_cons,Bool.and_eq_true]at h
  rw[List.map_cons,List.map_cons,List.foldl_cons,List.foldl_cons,apj_ h.1,ady_ l _ h.2]
def f5_ (l:List Sl):List Int × Bool:=if pok l then((ar_ (l.map ofS)).said,(ar_ (l.map ofS)).ok)else([],false)
theorem acm_ {l:List Sl} (h:pok l=true):l.all sok=true:=by simp only[pok,Bool.and_eq_true]at h;exact h.2
theorem amv_ {l:List Sl} (h:pok l=true):lok (l.map bof)=true:=by
 simp only[pok,Bool.and_eq_true]at h
 simp only[lok,List.length_map,h.1.1,h.1.2,Bool.true_and]
 rw[List.all_map]
 exact List.all_eq_true.2 fun s hs=>tq_ (List.all_eq_true.1 h.2 s hs)
theorem av3_ {l:List Sl} (h:pok l=true):jd_ (l.map bof)=f5_ l:=by
 unfold jd_ f5_ ar_
 rw[if_pos (amv_ h),if_pos h,ady_ l _ (acm_ h)]
theorem ql_ {l:List Sl} (h:pok l=false):f5_ l=([],false):=by unfold f5_;rw[h];rfl
theorem nf_ {l:List Sl} {k:Nat} (hl:pok l=true) (hk:k<l.length) (h:(ar_ ((l.map ofS).take k)).ok=true) (h0:¬(l.getD k S0).kind=0) (h2:(c2_ (ofS (l.getD k S0)) (ar_ ((l.map ofS).take k)).names (ar_ ((l.map ofS).take k)).nums).2.2=false):f5_ l=((ar_ ((l.map ofS).take k)).said,false):=by
 have hk':k<(l.map ofS).length:=by rw[List.length_map];exact hk
 have hg:(l.map ofS).getD k B0=ofS (l.getD k S0):=by simp[List.getD_eq_getElem?_getD,List.getElem?_eq_getElem hk]
 have e:=g9_ hk'
 rw[hg,zd_ h h0 h2]at e
 have e2:=aaa_ (l:=l.map ofS) (k:=k+1) (by omega) (by rw[e])
 unfold f5_;rw[if_pos hl,e2,e]
theorem pg_ {l:List Sl} {k:Nat} (hl:pok l=true) (hk:l.length≤k) (h:(ar_ ((l.map ofS).take k)).ok=true):f5_ l=((ar_ ((l.map ofS).take k)).said,true):=by
 rw[List.take_of_length_le (by rw[List.length_map];exact hk)]at h ⊢
 unfold f5_;rw[if_pos hl,h]
theorem ev_ {l:List Sl} {k:Nat} (hk:k<l.length):(l.map ofS).getD k B0=ofS (l.getD k S0):=by simp[List.getD_eq_getElem?_getD,List.getElem?_eq_getElem hk]
def hm_ (s:Str):List Int × Bool:=if (bo_ s).all (fun w=>(el_ w).isSome)then jd_ ((bo_ s).map fun w=>(el_ w).getD B0)else([],false)
theorem x1_ {b:Bl} (h:bok b=true):el_ (jw_ b)=some b:=zb_.2 ⟨h,rfl⟩
theorem am2_ {l:List Bl} (h:lok l=true):hm_ (bt_ (l.map jw_))=jd_ l:=by
 have h0:=h
 simp only[lok,Bool.and_eq_true,decide_eq_true_eq]at h0
 obtain⟨⟨h1,h2⟩,h3⟩:=h0
 have hb:∀b∈l,bok b=true:=fun b hb=>List.all_eq_true.1 h3 b hb
 have e:bo_ (bt_ (l.map jw_))=l.map jw_:=ly_ (fun w hw=>by obtain⟨b,q,rfl⟩:=List.mem_map.1 hw;exact w4_ (hb b q)) (by intro q;have:=congrArg List.length q;rw[List.length_map]at this;simp only[List.length_nil]at this;omega) (by rw[List.length_map];exact h2)
 unfold hm_
 rw[e,if_pos (List.all_eq_true.2 fun w hw=>by obtain⟨b,q,rfl⟩:=List.mem_map.1 hw;rw[x1_ (hb b q)];rfl)]
 congr 1
 rw[List.map_map]
 conv=>rhs;rw[←List.map_id l]
 exact List.map_congr_left fun b q=>by show(el_ (jw_ b)).getD B0=id b;rw[x1_ (hb b q)];rfl
theorem rv_ {s:Sl} (h:sok s=true):emT s=jw_ (bof s):=by unfold emT jw_;rw[if_pos h]
theorem acw_ {l:List Sl} (h:pok l=true):ve_ l=bt_ ((l.map bof).map jw_):=by
 unfold ve_;rw[if_pos h,List.map_map]
 congr 1
 exact List.map_congr_left fun s hs=>rv_ (List.all_eq_true.1 (acm_ h) s hs)
theorem aer_ {l:List Sl} (h:pok l=true):hm_ (ve_ l)=f5_ l:=by
 rw[acw_ h,am2_ (amv_ h),av3_ h]
end
section
abbrev Sg:=Int × Int × Int × Int
def sgC (s:Sg):List V:=[.i .i64 s.1,.i .i64 s.2.1,.i .i64 s.2.2.1,.i .i64 s.2.2.2]
def sgR (l:List Sg):List (List V):=l.map sgC
def G0:Sg:=(0,0,0,0)
theorem df_ (l:List Sg):(sgR l).length=l.length:=by simp[sgR]
theorem cf_:∀l:List Sg,bg_ (sgR l)=true
 |[]=>rfl
 |_::r=>by show(bu_ [_,_,_,_]&&bg_ (sgR r))=true;rw[cf_ r];rfl
theorem awh_ (a b:List Sg):sgR (a++b)=sgR a++sgR b:=by simp[sgR]
theorem azw_ {l:List Sg} {k:Nat} (h:k<l.length):(sgR l).getD k []=sgC (l.getD k G0):=by
 simp[sgR,List.getD_eq_getElem?_getD,List.getElem?_eq_getElem h]
theorem agv_ (l:List Sg):(∀r,r∈sgR l→r.length=4)=True:=eq_true fun r hr=>by obtain⟨t,_,rfl⟩:=List.mem_map.1 hr;rfl
def T0k:Tk:=⟨0,[],0⟩
def sg1 (line:Int) (x:Tk × Int):Option Sg:=if 0≤x.2 then some (line,x.1.col,line,x.2)else none
def sgs (line:Int) (ts:List Tk) (fs:List Int):List Sg:=(ts.zip fs).filterMap (sg1 line)
def sgK (line:Int) (ts:List Tk) (fs:List Int) (k:Nat):List Sg:=((ts.zip fs).take k).filterMap (sg1 line)
theorem u0_ (line:Int) (ts:List Tk) (fs:List Int):sgK line ts fs 0=[]:=rfl
theorem gt_ {line:Int} {ts:List Tk} {fs:List Int} {k:Nat} (h1:k<ts.length) (h2:k<fs.length):sgK line ts fs (k+1)=sgK line ts fs k++(if 0≤fs.getD k 0 then [(line,(ts.getD k T0k).col,line,fs.getD k 0)]else []):=by
 have hz:k<(ts.zip fs).length:=by rw[List.length_zip];omega
 unfold sgK
 rw[List.take_add_one,List.getElem?_eq_getElem hz,List.filterMap_append]
 congr 1
 rw[List.getElem_zip,List.getD_eq_getElem?_getD,List.getElem?_eq_getElem h2,List.getD_eq_getElem?_getD,List.getElem?_eq_getElem h1]
 simp only[Option.toList,Option.getD_some,List.filterMap_cons,List.filterMap_nil,sg1]
 split<;>simp_all
theorem alj_ {line:Int} {ts:List Tk} {fs:List Int} {k:Nat} (h:ts.length≤k∨fs.length≤k):sgK line ts fs k=sgs line ts fs:=by
 unfold sgK sgs
 rw[List.take_of_length_le]
 rw[List.length_zip];omega
theorem th_ (line:Int) (ts:List Tk) (fs:List Int) (k:Nat):(sgK line ts fs k).length≤k:=by
 unfold sgK
 have:=List.length_filterMap_le (sg1 line) ((ts.zip fs).take k)
 rw[List.length_take]at this;omega
theorem aag_ (line:Int) (ts:List Tk) (fs:List Int):(sgs line ts fs).length≤fs.length:=by
 unfold sgs
 have:=List.length_filterMap_le (sg1 line) (ts.zip fs)
 rw[List.length_zip]at this;omega
def sgS (i:Nat) (s:Sl):List Sg:=sgs i ((az_ (emT s)).getD []) (emF s)
def sgN (l:List Sl):Nat→List Sg
 |0=>[]
 |k+1=>sgN l k++sgS k (l.getD k S0)
def sgP (l:List Sl):List Sg:=if pok l then sgN l l.length else []
theorem azf_ {s:Sl} (h:sok s=true):az_ (emT s)=some (tkOf 0 (bw (bof s))):=by rw[rv_ h];exact ru_ (tq_ h)
theorem asv_ (c:Int) (l:List Str):(tkOf c l).length=l.length:=by rw[←List.length_map (f:=Tk.s),qx_]
theorem ab7_ {s:Sl} (h:sok s=true):(emF s).length=(bw (bof s)).length:=by
 have q:=ig_ (de_ h)
 unfold emF;rw[if_pos h,←abg_ (de_ h),hn_]
 rw[←q.2,List.length_map]
theorem adb_ {s:Sl} (h:sok s=true):((az_ (emT s)).getD []).length=(emF s).length:=by
 rw[azf_ h,Option.getD_some,asv_,ab7_ h]
theorem acn_ {s:Sl} (h:sok s=true):(emF s).length≤76:=by
 rw[ab7_ h];exact(nu_ (iy_ (de_ h))).1
theorem awl_ {i:Nat} {s:Sl} (h:sok s=true):(sgS i s).length≤76:=by
 have:=aag_ i ((az_ (emT s)).getD []) (emF s)
 have:=acn_ h
 unfold sgS;omega
theorem aln_ {l:List Sl} (h:∀k,k<l.length→sok (l.getD k S0)=true):∀k,k≤l.length→(sgN l k).length≤76 * k
 |0,_=>by simp[sgN]
 |k+1,hk=>by
  have h1:=aln_ h k (by omega)
  have h2:=awl_ (i:=k) (h k (by omega))
  rw[sgN,List.length_append];omega
theorem aic_ {l:List Sl} (h:pok l=true) {k:Nat} (hk:k≤l.length):(sgN l k).length≤1216:=by
 have h0:=bd_ h
 have:=aln_ h0.2.2 k hk
 omega
theorem a13_ (l:List Sl):(sgP l).length≤1216:=by
 unfold sgP;split
 ·rename_i h;exact aic_ h (Nat.le_refl _)
 simp
theorem aja_:sok S0=true:=by decide
theorem emF_S0:emF S0=[]:=List.eq_nil_of_length_eq_zero (by rw[ab7_ aja_];decide)
theorem a1c_ (i:Nat):sgS i S0=[]:=by unfold sgS sgs;rw[emF_S0];simp
end
section
def sj_ (l:List Sg) (k:Nat):Bool:=
 decide (0≤(l.getD k G0).1)&&decide ((l.getD k G0).1≤15)&&(decide (0≤(l.getD k G0).2.1)&&decide ((l.getD k G0).2.1≤119))&&(decide (0≤(l.getD k G0).2.2.1)&&decide ((l.getD k G0).2.2.1≤15)&&(decide (0≤(l.getD k G0).2.2.2)&&decide ((l.getD k G0).2.2.2≤119)))&&
  (decide (k=0)||(decide ((l.getD (k - 1) G0).1<(l.getD k G0).1)||decide ((l.getD (k - 1) G0).1=(l.getD k G0).1)&&decide ((l.getD (k - 1) G0).2.1<(l.getD k G0).2.1)))
def h2_ (l:List Sg):Bool:=(List.range l.length).all (sj_ l)&&decide (l.length≤1280)
end
section
def lp_ (l:List Sg) (L c:Int):Nat→Option Sg
 |0=>none
 |k+1=>if (l.getD k G0).1=L∧(l.getD k G0).2.1≤c then some (l.getD k G0)else lp_ l L c k
def p0_ (l:List Sg) (L c:Int):Option Sg:=lp_ l L c l.length
theorem z6_ {l:List Sg} {L c:Int} {i:Nat} (hc:(l.getD i G0).1=L∧(l.getD i G0).2.1≤c):∀m,i<m→(∀j,i<j→j<m→¬((l.getD j G0).1=L∧(l.getD j G0).2.1≤c))→lp_ l L c m=some (l.getD i G0)
 |0,h,_=>by omega
 |m+1,h,hn=>by
  rw[lp_]
  by_cases e:i=m
  ·subst e;rw[if_pos hc]
  rw[if_neg (hn m (by omega) (by omega))]
  exact z6_ hc m (by omega) fun j h1 h2=>hn j h1 (by omega)
def g3_ (l:List Sg) (L c:Int):Option Sg:=if h2_ l then p0_ l L c else none
def es_ (L c:Int) (x:Sg):Bool:=decide (x.2.2.1=L)&&decide (x.2.2.2=c)
def di_ (l:List Sg) (L c:Int):List Sg:=if h2_ l then l.filter (es_ L c)else []
end
section
def lets:Str:=[97,98,99,100,101,102,103,104,105,106,107,108,109,110,111,112,65,66,67,68,69,70,71,72,73,74,75,76,77,78,79,80]
theorem un_:lets.length=32:=rfl
def nk_:Nat→Nat→Str
 |0,_=>[]
 |f+1,v=>if v<16 then [lets.getD v 0]else lets.getD (v % 16+16) 0::nk_ f (v / 16)
theorem alz_ {f v:Nat} (h:v<16):nk_ (f+1) v=[lets.getD v 0]:=by rw[nk_,if_pos h]
theorem alx_ {f v:Nat} (h:¬v<16):nk_ (f+1) v=lets.getD (v % 16+16) 0::nk_ f (v / 16):=by rw[nk_,if_neg h]
theorem acf_:∀f v,(nk_ f v).length≤f
 |0,_=>Nat.le_refl _
 |f+1,v=>by
  rw[nk_];split
  ·simp
  simpa using acf_ f (v / 16)
def f8_ (n:Int):Bool:=decide (-1000000≤n)&&decide (n≤1000000)
def zig (n:Int):Nat:=if n<0 then(-2 * n+1).toNat else(2 * n).toNat
theorem u3_ {n:Int} (h:f8_ n=true):zig n≤2000001:=by
 simp only[f8_,Bool.and_eq_true,decide_eq_true_eq]at h
 unfold zig;split<;>omega
def n0_ (n:Int):Str:=if f8_ n then nk_ 8 (zig n)else []
theorem pw_ (n:Int):(n0_ n).length≤8:=by
 unfold n0_;split
 ·exact acf_ _ _
 simp
def lk_ (l:List Int):Str:=if l.all f8_ then(l.map n0_).flatten else []
theorem wa_ (l:List Int):(lk_ l).length≤8 * l.length:=by
 have h:∀l:List Int,((l.map n0_).flatten).length≤8 * l.length:=fun l=>by
  induction l with
  |nil=>simp
  |cons n l ih=>have:=pw_ n;simp only[List.map_cons,List.flatten_cons,List.length_append,List.length_cons];omega
 unfold lk_;split
 ·exact h l
 simp
def jh_ (l:List Int) (k:Nat):Str:=((l.take k).map n0_).flatten
theorem zn_ {l:List Int} {k:Nat} (h:k<l.length):jh_ l (k+1)=jh_ l k++n0_ (l.getD k 0):=by
 unfold jh_
 rw[List.take_add_one,List.getElem?_eq_getElem h,List.getD_eq_getElem?_getD,List.getElem?_eq_getElem h,List.map_append,List.flatten_append]
 simp only[Option.toList_some,List.map_cons,List.map_nil,List.flatten_cons,List.flatten_nil,List.append_nil,Option.getD_some]
theorem p3_ (l:List Int) (k:Nat):(jh_ l k).length≤8 * l.length:=by
 have h:∀l:List Int,((l.map n0_).flatten).length≤8 * l.length:=fun l=>by
  induction l with
  |nil=>simp
  |cons n l ih=>have:=pw_ n;simp only[List.map_cons,List.flatten_cons,List.length_append,List.length_cons];omega
 have:=h (l.take k)
 rw[List.length_take]at this
 unfold jh_;omega
theorem x2_ {l:List Int} {k:Nat} (h:l.all f8_=true) (hk:l.length≤k):jh_ l k=lk_ l:=by
 unfold jh_ lk_;rw[if_pos h,List.take_of_length_le hk]
theorem ye_ {l:List Int} {k:Nat} (hk:k<l.length) (h:f8_ (l.getD k 0)=false):lk_ l=[]:=by
 unfold lk_
 rw[if_neg]
 intro q
 have:=List.all_eq_true.1 q (l.getD k 0) (by rw[List.getD_eq_getElem?_getD,List.getElem?_eq_getElem hk];exact List.getElem_mem hk)
 rw[h]at this;cases this
theorem aem_ {l:List Int} (h:∀k,k<l.length→f8_ (l.getD k 0)=true):l.all f8_=true:=by
 refine List.all_eq_true.2 fun n hn=>?_
 obtain⟨k,hk,rfl⟩:=List.getElem_of_mem hn
 have:=h k hk
 rwa [List.getD_eq_getElem?_getD,List.getElem?_eq_getElem hk]at this
/-! the text of a map -/
def ahd (l:List Sg) (k:Nat):Sg:=if k=0 then(0,0,0,0)else l.getD (k - 1) G0
theorem aac_ (l:List Sg) (k:Nat):ahd l (k+1)=l.getD k G0:=by unfold ahd;simp
def seg3 (l:List Sg) (k:Nat):List Int:=
 [(l.getD k G0).2.1 - (if (ahd l k).1<(l.getD k G0).1 then 0 else(ahd l k).2.1),(l.getD k G0).2.2.1 - (ahd l k).2.2.1,(l.getD k G0).2.2.2 - (ahd l k).2.2.2]
def segT (l:List Sg) (k:Nat):Str:=
 (if k≠0∧(l.getD k G0).1=(ahd l k).1 then [44]else [])++(List.replicate ((l.getD k G0).1 - (ahd l k).1).toNat 61++lk_ (seg3 l k))
def ij_ (l:List Sg):Nat→Str
 |0=>[]
 |k+1=>ij_ l k++segT l k
def mapT (l:List Sg):Str:=if h2_ l then ij_ l l.length else []
theorem ay2_ (l:List Sg) (k:Nat):((segT l k).length:Int)≤25+((l.getD k G0).1 - (ahd l k).1).toNat:=by
 have:=wa_ (seg3 l k)
 have e:(seg3 l k).length=3:=rfl
 unfold segT
 simp only[List.length_append,List.length_replicate]
 split<;>simp<;>omega
end
section
theorem t16 (v:Nat):(v:Int).tmod 16=((v % 16:Nat):Int):=by rw[Int.tmod_eq_emod_of_nonneg (by omega)];rfl
theorem d16 (v:Nat):(v:Int).tdiv 16=((v / 16:Nat):Int):=by rw[Int.tdiv_eq_ediv_of_nonneg (by omega)];rfl
theorem a4y_ {d:Nat} (h:d≤31):(lets.drop d).take 1=[lets.getD d 0]:=by
 rw[List.drop_eq_getElem_cons (by rw[un_];omega),List.getD_eq_getElem?_getD,List.getElem?_eq_getElem (by rw[un_];omega)];rfl
theorem agr_:ACall En 316 [] [] [.s lets] []:=by
 refine aa_ [] Tryz.func316 Tryz.ntmps316 fun C=>?_
 refine .seq (.rg [] ?_)
 refine .seq (.rg [] ?_)
 refine .ret ⟨.inr rfl,Out.pP Tryz.results316 ?_⟩;rfl
theorem s0_ (d:Nat) (h:d≤31):ACall En 310 [.i .i64 d] [] [.s [lets.getD d 0]] []:=by
 refine aa_ [] Tryz.func310 Tryz.ntmps310 fun C=>?_
 refine .seq (.rg [] ?_)
 refine .seq (.seq (.rg [] ?_))
 refine .cB (fun h8=>?_) fun h8=>?_
 ·simp at h8;omega
 refine .skip (.seq (.rgo [ab_ agr_] ?_ ?_))
 ·rw[ac_ (by omega) (by omega)];simp only[un_];and_intros<;>first|omega|trivial|(simp;done)
 refine .ret ⟨.inr rfl,Out.pP Tryz.results310 ?_⟩;rw[ac_ (by omega) (by omega)];simp only[List.cons.injEq,V.s.injEq,and_true];rw[show((d:Int)+1).toNat=d+1 by omega,List.drop_take,show d+1 - d=1 by omega];exact a4y_ h
theorem nn_ (f v:Nat) (hf:f≤8) (hv:v≤2000001) (ih:16≤v→ACall En 285 [.i .i64 (v / 16:Nat)] [] [.s (nk_ f (v / 16))] []):ACall En 285 [.i .i64 v] [] [.s (nk_ (f+1) v)] []:=by
 refine aa_ [] Tryz.func285 Tryz.ntmps285 fun C=>?_
 refine .seq (.rg [] ?_)
 refine .seq (.seq (.rg [] ?_))
 refine .cB (fun h4=>?_) fun h4=>?_
 ·refine .seq (.rgo [a0_ (v<16) (fun h=>s0_ v (by omega))] ?_ ?_)
  ·simp at h4;omega
  refine .ret ⟨.inr rfl,Out.pP Tryz.results285 ?_⟩;simp at h4;rw[alz_ (by omega)]
 refine .skip (.seq (.rgo [ab_ (s0_ (v % 16+16) (by omega)),a0_ (16≤v) ih] ?_ ?_))
 ·simp at h4;rw[t16,d16,ac_ (by omega) (by omega),ac_ (by omega) (by omega)];have:=acf_ f (v / 16);and_intros<;>first|omega|trivial|(simp only[List.length_cons,List.length_nil];omega)
 refine .ret ⟨.inr rfl,Out.pP Tryz.results285 ?_⟩;simp at h4;rw[alx_ (by omega)]
theorem ny_:∀f v:Nat,f≤8→v<16 ^ (f+1)→v≤2000001→ACall En 285 [.i .i64 v] [] [.s (nk_ (f+1) v)] []
 |0,v,_,h,h2=>nn_ 0 v (by omega) h2 fun h3=>absurd h (by omega)
 |f+1,v,hf,h,h2=>nn_ (f+1) v hf h2 fun _=>ny_ f (v / 16) (by omega) (by rw[Nat.pow_succ]at h;omega) (by omega)
theorem aut_ (n:Int):ACall En 240 [.i .i64 n] [] [.b (f8_ n)] []:=by
 refine aa_ [] Tryz.func240 Tryz.ntmps240 fun C=>?_
 refine .seq (.rg [] ?_)
 refine .seq (.rg [] ?_)
 refine .ret ⟨.inr rfl,Out.pP Tryz.results240 ?_⟩;simp[f8_]
theorem ajz_ (n:Int):ACall En 241 [.i .i64 n] [] [.s (n0_ n)] []:=by
 refine aa_ [] Tryz.func241 Tryz.ntmps241 fun C=>?_
 refine .seq (.rg [] ?_)
 refine .seq (.seq (.rg [ab_ (aut_ n)] ?_))
 refine .cB (fun h5=>?_) fun h5=>?_
 ·refine .seq (.rg [] ?_)
  refine .ret ⟨.inr rfl,Out.pP Tryz.results241 ?_⟩;simp at h5;simp[n0_,h5]
 refine .skip (.seq (.seq (.rg [] ?_)))
 refine .cB (fun h7=>?_) fun h7=>?_
 ·refine .seq (.rgo [a0_ (f8_ n=true∧n<0) (fun h=>ny_ 7 (zig n) (by decide) (by have:=u3_ h.1;omega) (u3_ h.1))] ?_ ?_)
  ·simp at h5 h7;have hz:=h5;simp only[f8_,Bool.and_eq_true,decide_eq_true_eq]at hz;rw[ac_ (n:= -2 * n) (by omega) (by omega),ac_ (by omega) (by omega)];exact⟨by unfold zig;rw[if_pos h7];omega,h5,h7⟩
  refine .ret ⟨.inr rfl,Out.pP Tryz.results241 ?_⟩;simp at h5;simp[n0_,h5]
 refine .skip (.seq (.rgo [a0_ (f8_ n=true∧¬n<0) (fun h=>ny_ 7 (zig n) (by decide) (by have:=u3_ h.1;omega) (u3_ h.1))] ?_ ?_))
 ·simp at h5 h7;have hz:=h5;simp only[f8_,Bool.and_eq_true,decide_eq_true_eq]at hz;rw[ac_ (by omega) (by omega)];exact⟨by unfold zig;rw[if_neg (by omega)];omega,h5,by omega⟩
 refine .ret ⟨.inr rfl,Out.pP Tryz.results241 ?_⟩;simp at h5;simp[n0_,h5]
attribute [local go_sem] a2_ al_ in
theorem aff_ (l:List Int) (hl:l.length≤1000000):ACall En 182 [.sl false (inR l)] [] [.s (lk_ l)] []:=by
 refine aa_ [] Tryz.func182 Tryz.ntmps182 fun C=>?_
 refine .seq (.rg [] ?_)
 refine .seq (.rg [] ?_)
 refine .seq (.seq (.rg [] ?_))
 refine .block (.loopK (fun k:Nat=>⟨[.sl false (inR l),.no,.no,.s (jh_ l k),.i .i64 k,.no,.no,.no,.no,.no,.no,.no,.no,.no,.no,.no,.no,.no,.no,.no,.no,.no,.no,.no,.no],ae_ [],us []⟩) (fun k:Nat=>k≤l.length∧∀j,j<k→f8_ (l.getD j 0)=true) (fun k:Nat=>l.length - k) (0) ?_ ?_ (fun k hI=>?_))
 ·exact⟨Nat.zero_le _,fun j hj=>absurd hj (by omega)⟩
 ·refine Can.wh ?_;(try simp[jh_])
 refine .seq (.seq (.rg [] ?_))
 refine .cB (fun h8=>?_) fun h8=>?_
 ·refine .skip (.seq (.block (.seq (.seq (.rgo [ab_ (aut_ (l.getD k 0))] ?_ ?_ (h:=by simp only[go_sem,seval,c1_ (show k<l.length by simpa using h8)];rfl))))))
  ·((simp only[decide_eq_true_eq]at h8;have:=pw_ (l.getD k 0);have:=p3_ l k;and_intros<;>omega))
  refine .cB (fun h16=>?_) fun h16=>?_
  ·refine .seq (.rg [] ?_)
   refine .ret ⟨.inr rfl,Out.pP Tryz.results182 ?_⟩;simp only[decide_eq_true_eq]at h8;rw[ye_ (k:=k) (by omega) (by simpa using h16)]
  refine .skip (.rgo [ab_ (ajz_ (l.getD k 0))] ?_ ?_ (h:=by simp only[go_sem,seval,c1_ (show k<l.length by simpa using h8)];rfl))
  ·((simp only[decide_eq_true_eq]at h8;have:=pw_ (l.getD k 0);have:=p3_ l k;and_intros<;>omega))
  refine .rg [] ?_
  refine⟨k+1,?_,?_,?_⟩
  ·simp only[decide_eq_true_eq]at h8;exact⟨by omega,fun j hj=>by by_cases e:j=k;(subst e;simpa using h16);exact hI.2 j (by omega)⟩
  ·simp at h8;omega
  refine Can.wh ?_;simp only[decide_eq_true_eq]at h8;rw[ac_ (by omega) (by omega),zn_ (by omega)];(try simp)
 refine .exit (.seq (.rg [] ?_))
 refine .ret ⟨.inr rfl,Out.pP Tryz.results182 ?_⟩;simp only[decide_eq_false_iff_not]at h8;rw[x2_ (aem_ fun j hj=>hI.2 j (by omega)) (by omega)]
end
section
open Go.RowKit
attribute [go_sem high] a59_ a6q_ a5o_ a5b_ a1p_ a3a_ a1x_ a2n_ a1h_ a41_ a3t_ aqq_ nb_ apv_ acy_ anq_ a45_ a4q_ a24_
attribute [go_sem] jb_ fl_ ptrO a0k_ toUO aqg_ yj_ att_ au1_ asi_ az0_ asx_ ptrV eqB
theorem u6_ {E:Env} {f:FuncId} {fn:Func} {c:Code} {vs rs σ0:List V} {L0 Lr:List Blk} {n:Nat} {M0:List (Nat × Blk)} (η:List Nat) (k:Nat) (hf:E.P.funcs[f]? = some fn) (hn:fn.ntmps=n) (h:∀C,AWp E C c (fun e s=>(e = .normal∨e = .ret)∧Out E fn k rs Lr η s) ⟨σ0,ae_ M0,us []⟩) (hb:fn.body=some c:=by rfl) (hname:(fn.name== "runtime.NumGoroutine")=false:=by rfl) (hk:L0.length≤10:=by simp) (hk2:k≤L0.length:=by simp)
  (hσ:vs++List.replicate (n - vs.length) .no=σ0:=by simp only[List.length_cons,List.length_nil,Nat.reduceAdd,Nat.reduceSub,List.replicate_succ,List.replicate_zero,List.cons_append,List.nil_append];rfl) (hM:te_ 0 L0=M0:=by simp only[te_];rfl):n5_ E f vs L0 k rs Lr:=by
 subst hσ hM hn
 refine wt_ η hf hb hname hk hk2 fun C=>?_
 rw[v0_];exact h C
end
section
open Go.RowKit
theorem bldI:∃i,En.P.info? 39=some i∧i.size=2∧i.zero=some (.agg #[.pointer none,.slice none 0 0]):=by
 have h:(Tryz.prog.info? 39).map (fun i=>(i.size,i.zero))=some (2,some (.agg #[.pointer none,.slice none 0 0])):=by kernel_rfl
 obtain⟨i,h1,h2⟩:=Option.map_eq_some_iff.1 h
 exact⟨i,h1,congrArg Prod.fst h2,congrArg Prod.snd h2⟩
theorem a4p_:∀v w,(callFunc 79 #[v]).run En.P w = .ok (.value v) w:=fun v w=>by
 rw[show En.P=Tryz.prog from rfl,run_callFunc_extern Tryz.func79 (by kernel_rfl) (by kernel_rfl) (by kernel_rfl) (e:=Extern.AbiNoEscape.same) (by kernel_rfl)];rfl
abbrev bld (k n:Nat) (t:Str):List Blk:=[⟨39,2,[[bA 0 k,bB 1 n]]⟩,⟨5,1,byR t⟩]
theorem ahz_ (n:Nat) (t:Str):ACall En 38 [.pt 0 2 0 0] (bld 0 n t) [] (bld 1 n t):=by
 obtain⟨i,i1,i2,i3⟩:=bldI
 have e0:bA 0 0 = .np:=rfl
 refine aa_ [0,1] Tryz.func38 Tryz.ntmps38 fun C=>?_
 refine .seq (.rgSo [6] [ptrO En .eql .np .np] ?_ ?_ (h:=by simp only[go_sem,seval,e0];rfl))
 ·exact⟨_,_,_,_,_,_,rfl,Tryz.underlying37,i1,rfl,rfl,.inl rfl,trivial⟩
 refine .cB (fun h6=>?_) (fun h6=>?_) (hc:=by simp only[go_sem,seval,e0];rfl) (hp:=by simp only[go_sem,seval,e0])
 ·refine .rgSo [9,11] [toUO En 0 2 ⟨39,2,[[.np,bB 1 n]]⟩,a0k_ En 79 (.pt 0 2 0 0) a4p_,aqg_ En 0 2 ⟨39,2,[[.np,bB 1 n]]⟩] ?_ ?_ (h:=by simp only[go_sem,seval,e0];rfl)
  ·exact⟨⟨⟨_,_,_,_,_,rfl,Tryz.underlying37,Tryz.underlying108,i1,by omega,rfl⟩,_,_,_,rfl,rfl,rfl⟩,_,_,_,_,rfl,Tryz.underlying108,Tryz.underlying37,i1,i2,rfl⟩
  refine And.intro (.inl rfl) ?_
  exact Out.mm (by simp only[Tryz.results38];rfl) (by simp only[ba_,rns,rn,go_sem,seval,e0]<;>(rfl)) (by simp only[aw_,go_sem,seval,e0]<;>(rfl)) (h1:=by simp only[a1_,bn_,go_sem,seval,e0]) (h6:=by simp only[go_sem,seval,e0]) (h7:=by simp only[a5_,go_sem,seval,e0])
 cases h6
attribute [local go_sem] a20_ in
theorem aiq_ (k n:Nat) (t:Str):ACall En 38 [.pt 0 2 0 0] (bld (k+1) n t) [] (bld 1 n t):=by
 obtain⟨i,i1,i2,i3⟩:=bldI
 refine aa_ [0,1] Tryz.func38 Tryz.ntmps38 fun C=>?_
 refine .seq (.rgSo [6] [ptrO En .eql (.pt 0 2 0 0) .np] ?_ ?_)
 ·exact⟨_,_,_,_,_,_,rfl,Tryz.underlying37,i1,rfl,rfl,.inl rfl,by decide⟩
 refine .cB (fun h6=>?_) fun h6=>?_
 ·cases h6
 refine .seq (.rgSo [19] [ptrO En .neq (.pt 0 2 0 0) (.pt 0 2 0 0)] ?_ ?_)
 ·exact⟨_,_,_,_,_,_,rfl,Tryz.underlying37,i1,rfl,rfl,.inr rfl,by decide⟩
 refine .cB (fun h19=>?_) fun h19=>?_
 ·cases h19
 refine .skip ?_
 refine And.intro (.inl rfl) ?_
 refine Out.mP Tryz.results38 ?_ ?_
 ·trivial
 trivial
theorem sz_ (k n:Nat) (t:Str):ACall En 38 [.pt 0 2 0 0] (bld k n t) [] (bld 1 n t):=by
 cases k with
 |zero=>exact ahz_ n t
 |succ k=>exact aiq_ k n t
attribute [local go_sem] aw_ a5_ in
theorem dx_ (k n:Nat) (t r:Str) (hn:n=t.length) (hb:n+r.length≤100000000000000):n5_ En 17 [.pt 0 2 0 0,.s r] (bld k n t) 1 [.i .i64 r.length,.no] (bld 1 (n+r.length) (t++r)):=by
 refine u6_ [0,40] 1 Tryz.func17 Tryz.ntmps17 fun C=>?_
 refine .seq (.rg [] ?_)
 refine .seq (.rg [at_ [0,1] [] (sz_ k n t)] ?_)
 refine .seq (.rgSo [14] [az0_ En 5 1 40 n (byR t) r] ?_ ?_)
 ·exact⟨_,_,_,_,1,rfl,by simp only[go_sem,seval],Tryz.underlying9,by decide,nb_ _ _,rfl,by simp[hn],by omega⟩
 refine .seq (.rg [] ?_)
 refine .ret ⟨.inr rfl,?_⟩
 exact Out.mmL (by simp only[Tryz.results17];rfl) (by simp only[ba_,rns,rn,go_sem,seval]<;>(rfl)) (by simp only[aw_,go_sem,seval]<;>(simp[byR]))
attribute [local go_sem] aw_ a5_ in
theorem sq_ (k n:Nat) (t:Str) (c:UInt8) (hn:n=t.length) (hb:n≤100000000000000):n5_ En 300 [.pt 0 2 0 0,.i .u8 c.toNat] (bld k n t) 1 [.no] (bld 1 (n+1) (t++[c])):=by
 refine u6_ [0,40] 1 Tryz.func300 Tryz.ntmps300 fun C=>?_
 refine .seq (.rg [] ?_)
 refine .seq (.rg [at_ [0,1] [] (sz_ k n t)] ?_)
 refine .seq (.rgSo [14] [asx_ En 5 1 40 n (byR t) (.i .u8 c.toNat)] ?_ ?_)
 ·exact⟨_,_,_,1,_,rfl,by simp only[go_sem,seval],by decide,nb_ _ _,rfl,by simp[hn],by omega⟩
 refine .seq (.rg [] ?_)
 refine .ret ⟨.inr rfl,?_⟩
 exact Out.mmL (by simp only[Tryz.results300];rfl) (by simp only[ba_,rns,rn,go_sem,seval]<;>(rfl)) (by simp only[aw_,go_sem,seval]<;>(simp[byR]))
attribute [local go_sem] aw_ a5_ in
theorem a49_ (k n:Nat) (t:Str):ACall En 16 [.pt 0 2 0 0] (bld k n t) [.i .i64 n] (bld k n t):=by
 refine aa_ [0,1] Tryz.func16 Tryz.ntmps16 fun C=>?_
 refine .seq (.rg [] ?_)
 refine .seq (.rgSo [7] [att_ En 1 n] ?_ ?_)
 ·exact⟨_,_,_,rfl,Tryz.underlying24,nb_ _ _⟩
 refine .ret ⟨.inr rfl,Out.mP Tryz.results16 ?_ ?_⟩
 ·trivial
 trivial
attribute [local go_sem] aw_ a5_ in
theorem lx_ (k n:Nat) (t:Str) (hn:n=t.length) (hb:n≤100000000000000):n5_ En 19 [.pt 0 2 0 0] (bld k n t) 1 [.s t] [⟨39,2,[[.no,.no]]⟩]:=by
 subst hn
 have hc:En.P.cellsOf 5=1:=by kernel_rfl
 refine u6_ [0] 1 Tryz.func19 Tryz.ntmps19 fun C=>?_
 refine .seq (.rg [] ?_)
 refine .seq (.rgDSo [7,12,13] [au1_ En 1 t.length,att_ En 1 t.length,asi_ En 5 1 t] ?_ ?_)
 ·exact⟨⟨⟨_,_,rfl,nb_ _ _⟩,_,_,_,rfl,Tryz.underlying24,nb_ _ _⟩,_,_,_,_,rfl,Tryz.underlying81,hc,acy_ _ _,rfl,by omega⟩
 refine .can (Can.leAt 0 ([[.no,.no]]) (by simp only[go_sem,seval]<;>rfl) (by simp only[go_sem,seval,ler,les,leV]<;>(first|trivial|simp)) (by simp only[go_sem,seval]<;>rfl)) ?_
 refine .ret ⟨.inr rfl,Out.mP Tryz.results19 ?_ ?_⟩
 ·trivial
 trivial
end
section
open Go.RowKit
theorem ak4_ (n:Int):ACall En 270 [.i .i64 n] [] [.b (f8_ n)] []:=by
 refine aa_ [] Tryz.func270 Tryz.ntmps270 fun C=>?_
 refine .seq (.rg [] ?_)
 refine .seq (.rg [ab_ (ta_ n (-1000000) 1000000)] ?_)
 refine .ret ⟨.inr rfl,Out.pP Tryz.results270 ?_⟩;rfl
theorem alt_ {q:Nat × Nat × Str} {D:Str} (h:q.2.2++nk_ (q.1+1) q.2.1=D∧q.2.1<16 ^ (q.1+1)∧q.1+q.2.2.length=7∧q.2.1≤2000001) (hv:16≤q.2.1) :
  (q.2.2++[lets.getD (q.2.1 % 16+16) 0])++nk_ (q.1 - 1+1) (q.2.1 / 16)=D∧q.2.1 / 16<16 ^ (q.1 - 1+1)∧q.1 - 1+(q.2.2++[lets.getD (q.2.1 % 16+16) 0]).length=7∧q.2.1 / 16≤2000001:=by
 obtain⟨f,v,o⟩:=q
 obtain⟨h1,h2,h3,h4⟩:=h
 dsimp only at *
 cases f with
 |zero=>omega
 |succ f=>
  rw[alx_ (by omega)]at h1
  rw[Nat.pow_succ]at h2
  exact⟨by simpa using h1,by rw[Nat.add_sub_cancel];omega,by simp;omega,by omega⟩
attribute [local go_sem] aw_ a5_ hx_ k2_ in
theorem aht_ (n:Int):ACall En 271 [.i .i64 n] [] [.s (n0_ n)] []:=by
 obtain⟨iB,i1,i2,i3⟩:=bldI
 have hz:=@u3_ n
 refine aa_ [] Tryz.func271 Tryz.ntmps271 fun C=>?_
 refine .seq (.rg [] ?_)
 refine .seq (.seq (.rg [ab_ (ak4_ n)] ?_))
 refine .cB (fun h7=>?_) fun h7=>?_
 ·refine .seq (.rg [] ?_)
  refine .ret ⟨.inr rfl,Out.pQ Tryz.results271 ?_⟩;simp at h7;simp[n0_,h7]
 refine .skip (.seq (.rg [] ?_))
 refine .seqJ (fun u:Unit=>⟨[.i .i64 n,.no,.no,.i .i64 (zig n),.no,.no,.no,.no,.no,.no,.no,.no,.no,.no,.no,.no,.no,.no,.no,.no,.no,.no,.no,.no,.no,.no,.no,.no],ae_ [],us []⟩) (fun u:Unit=>f8_ n=true) ?_ (fun u hJ=>?_)
 ·refine .seq (.rg [] ?_)
  refine .cB (fun h11=>?_) fun h11=>?_
  ·refine .rg [] ?_
   refine Exists.intro (()) ⟨?_,?_⟩
   ·simpa using h7
   refine Can.wh ?_;simp at h7;have hq:=h7;simp only[f8_,Bool.and_eq_true,decide_eq_true_eq]at hq;first|(simp only[decide_eq_true_eq]at h11;rw[ac_ (n:= -2 * n) (by omega) (by omega),ac_ (by omega) (by omega)];unfold zig;rw[if_pos h11];omega)|(simp only[decide_eq_false_iff_not]at h11;rw[ac_ (by omega) (by omega)];unfold zig;rw[if_neg h11];omega)
  refine .skip ?_
  refine Exists.intro (()) ⟨?_,?_⟩
  ·simpa using h7
  refine Can.wh ?_;simp at h7;have hq:=h7;simp only[f8_,Bool.and_eq_true,decide_eq_true_eq]at hq;first|(simp only[decide_eq_true_eq]at h11;rw[ac_ (n:= -2 * n) (by omega) (by omega),ac_ (by omega) (by omega)];unfold zig;rw[if_pos h11];omega)|(simp only[decide_eq_false_iff_not]at h11;rw[ac_ (by omega) (by omega)];unfold zig;rw[if_neg h11];omega)
 refine .seq (.rgSo [4] [yj_ En 39 14] ?_ ?_)
 ·exact⟨_,i1,i3⟩
 refine .seq (.block (.loopK (fun q:Nat × Nat × Str=>⟨[.no,.no,.no,.i .i64 q.2.1,.pt 14 2 0 0,.no,.no,.no,.no,.no,.no,.no,.no,.no,.no,.no,.no,.no,.no,.no,.no,.no,.no,.no,.no,.no,.no,.no],ae_ [(14,⟨39,2,[[bA 14 q.2.2.length,bB 20 q.2.2.length]]⟩),(20,⟨5,1,byR q.2.2⟩)],us [14,20]⟩) (fun q:Nat × Nat × Str=>q.2.2++nk_ (q.1+1) q.2.1=nk_ 8 (zig n)∧q.2.1<16 ^ (q.1+1)∧q.1+q.2.2.length=7∧q.2.1≤2000001) (fun q:Nat × Nat × Str=>q.1) ((7,zig n,[])) ?_ ?_ (fun q hI=>?_)))
 ·exact⟨rfl,by have:=hz hJ;dsimp only;omega,rfl,hz hJ⟩
 ·refine Can.trans (Can.newName 20 5 1 (by simp only[go_sem,seval]<;>rfl) (by simp only[go_sem,seval]<;>rfl)) ?_
  refine Can.wk ?_ ?_
  ·trivial
  exact⟨rfl,rfl⟩
 refine .seq (.seq (.rg [] ?_))
 refine .cB (fun h16=>?_) fun h16=>?_
 ·refine .skip (.seq (.block (.rgo [jb_ [14,20] [14,40] (sq_ q.2.2.length q.2.2.length q.2.2 (lets.getD (q.2.1 % 16+16) 0) rfl (by omega))] ?_ ?_)))
  ·simp only[decide_eq_true_eq]at h16;rw[t16,ac_ (by omega) (by omega)];exact⟨by omega,by rw[show(((q.2.1 % 16:Nat):Int)+16).toNat=q.2.1 % 16+16 by omega];exact⟨rfl,by decide,by decide⟩⟩
  refine .rg [] ?_
  refine Exists.intro ((q.1 - 1,q.2.1 / 16,q.2.2++[lets.getD (q.2.1 % 16+16) 0])) ⟨?_,?_,?_⟩
  ·simp only[decide_eq_true_eq]at h16;exact alt_ hI (by omega)
  ·simp only[decide_eq_true_eq]at h16;have:=(alt_ hI (by omega)).2.2.1;simp only[List.length_append,List.length_cons,List.length_nil]at this;dsimp only;omega
  refine Can.trans (Can.sX 40 20) ?_
  refine Can.wk ?_ ?_
  ·rw[d16,ac_ (by omega) (by omega)]
  simp[bA,byR]
 refine .exit (.seq (.rgo [jb_ [14,20] [14,40] (sq_ q.2.2.length q.2.2.length q.2.2 (lets.getD q.2.1 0) rfl (by omega))] ?_ ?_))
 ·simp only[decide_eq_false_iff_not]at h16;exact⟨by omega,rfl,by decide,by decide⟩
 refine .seq (.rg [jb_ [14,40] [14] (lx_ 1 (q.2.2.length+1) (q.2.2++[lets.getD q.2.1 0]) (by simp) (by omega))] ?_)
 refine .ret ⟨.inr rfl,Out.pQ Tryz.results271 ?_⟩;simp only[decide_eq_false_iff_not]at h16;have e:=hI.1;rw[alz_ (by omega)]at e;rw[e];simp[n0_,hJ]
attribute [local go_sem] aw_ a5_ hx_ k2_ a2_ al_ in
theorem agu_ (l:List Int) (hl:l.length≤1000000):ACall En 219 [.sl false (inR l)] [] [.s (lk_ l)] []:=by
 obtain⟨iB,i1,i2,i3⟩:=bldI
 refine aa_ [] Tryz.func219 Tryz.ntmps219 fun C=>?_
 refine .seq (.rg [] ?_)
 refine .seq (.rgSo [3] [yj_ En 39 13] ?_ ?_)
 ·exact⟨_,i1,i3⟩
 refine .seq (.seq (.rg [] ?_))
 refine .block (.loopK (fun k:Nat=>⟨[.no,.no,.no,.pt 13 2 0 0,.no,.no,.sl false (inR l),.i .i64 l.length,.i .i64 k,.no,.no,.no,.no,.no,.no,.no,.no,.no,.no,.no],ae_ [(13,⟨39,2,[[bA 13 k,bB 20 (jh_ l k).length]]⟩),(20,⟨5,1,byR (jh_ l k)⟩)],us [13,20]⟩) (fun k:Nat=>k≤l.length∧∀j,j<k→f8_ (l.getD j 0)=true) (fun k:Nat=>l.length - k) (0) ?_ ?_ (fun k hI=>?_))
 ·exact⟨Nat.zero_le _,fun j hj=>absurd hj (by omega)⟩
 ·refine Can.trans (Can.newName 20 5 1 (by simp only[go_sem,seval]<;>rfl) (by simp only[go_sem,seval]<;>rfl)) ?_
  refine Can.wk ?_ ?_
  ·trivial
  exact⟨rfl,rfl⟩
 refine .seq (.rg [] ?_)
 refine .seq (.cB (fun h9=>?_) fun h9=>?_)
 ·refine .skip (.seq (.block (.seq (.rgo [] ?_ ?_ (h:=by simp only[go_sem,seval,c1_ (show k<l.length by simpa using h9)];rfl)))))
  ·((simp only[decide_eq_true_eq]at h9;and_intros<;>omega))
  refine .seq (.seq (.rg [ab_ (ak4_ (l.getD k 0))] ?_))
  refine .cB (fun h14=>?_) fun h14=>?_
  ·refine .seq (.rg [] ?_)
   refine .ret ⟨.inr rfl,Out.pQ Tryz.results219 ?_⟩;simp only[decide_eq_true_eq]at h9;rw[ye_ (k:=k) (by omega) (by simpa using h14)]
  refine .skip (.rg [ab_ (aht_ (l.getD k 0)),jb_ [13,20] [13,40] (dx_ k (jh_ l k).length (jh_ l k) (n0_ (l.getD k 0)) rfl (by have:=p3_ l k;have:=pw_ (l.getD k 0);omega))] ?_)
  refine .rg [] ?_
  refine⟨k+1,?_,?_,?_⟩
  ·simp only[decide_eq_true_eq]at h9;exact⟨by omega,fun j hj=>by by_cases e:j=k;(subst e;simpa using h14);exact hI.2 j (by omega)⟩
  ·simp at h9;omega
  refine Can.trans (Can.sX 40 20) ?_
  refine Can.wk ?_ ?_
  ·simp only[decide_eq_true_eq]at h9;rw[ac_ (by omega) (by omega)];(try simp)
  simp only[decide_eq_true_eq]at h9;rw[zn_ (by omega)];simp[bA,byR]
 refine .exit (.seq (.rg [jb_ [13,20] [13] (lx_ k (jh_ l k).length (jh_ l k) rfl (by have:=p3_ l k;omega))] ?_))
 refine .ret ⟨.inr rfl,Out.pQ Tryz.results219 ?_⟩;simp only[decide_eq_false_iff_not]at h9;rw[x2_ (aem_ fun j hj=>hI.2 j (by omega)) (by omega)]
end
section
theorem ll_ {l:List Sg} {k:Nat} (h:h2_ l=true) (hk:k<l.length):(0≤(l.getD k G0).1∧(l.getD k G0).1≤15)∧(0≤(l.getD k G0).2.1∧(l.getD k G0).2.1≤119)∧(0≤(l.getD k G0).2.2.1∧(l.getD k G0).2.2.1≤15)∧(0≤(l.getD k G0).2.2.2∧(l.getD k G0).2.2.2≤119)∧(k=0∨(l.getD (k - 1) G0).1≤(l.getD k G0).1):=by
 simp only[h2_,Bool.and_eq_true]at h
 have:=List.all_eq_true.1 h.1 k (by simpa using hk)
 simp only[sj_,Bool.and_eq_true,Bool.or_eq_true,decide_eq_true_eq]at this
 omega
theorem mm_ {l:List Sg} {k:Nat} (h:h2_ l=true) (hk:k<l.length):(0≤(ahd l k).1∧(ahd l k).1≤(l.getD k G0).1)∧(0≤(ahd l k).2.1∧(ahd l k).2.1≤119)∧(0≤(ahd l k).2.2.1∧(ahd l k).2.2.1≤15)∧(0≤(ahd l k).2.2.2∧(ahd l k).2.2.2≤119):=by
 have h1:=ll_ h hk
 unfold ahd
 split
 ·dsimp only;omega
 have h2:=ll_ h (k:=k - 1) (by omega)
 omega
theorem aqf_ {l:List Sg} (h:h2_ l=true):l.length≤1280:=by
 simp only[h2_,Bool.and_eq_true,decide_eq_true_eq]at h;exact h.2
theorem ld_ {l:List Sg} (h:h2_ l=true):∀k,k≤l.length→(ij_ l k).length≤41 * k
 |0,_=>by simp[ij_]
 |k+1,hk=>by
  have h1:=ld_ h k (by omega)
  have h2:=ay2_ l k
  have h3:=ll_ h (k:=k) (by omega)
  have h4:=mm_ h (k:=k) (by omega)
  rw[ij_,List.length_append]
  omega
def s8_ (l:List Sg) (k:Nat):Str:=ij_ l k++((if k≠0∧(l.getD k G0).1=(ahd l k).1 then [44]else [])++List.replicate ((l.getD k G0).1 - (ahd l k).1).toNat 61)
def xh_ (l:List Sg) (k:Nat):Int:=if (ahd l k).1<(l.getD k G0).1 then 0 else(ahd l k).2.1
theorem ac4_ (l:List Sg) (k:Nat):ij_ l (k+1)=s8_ l k++lk_ (seg3 l k):=by
 rw[ij_];unfold s8_ segT;simp only[List.append_assoc]
theorem axu_ (l:List Sg) (k:Nat):seg3 l k=[(l.getD k G0).2.1 - xh_ l k,(l.getD k G0).2.2.1 - (ahd l k).2.2.1,(l.getD k G0).2.2.2 - (ahd l k).2.2.2]:=rfl
theorem awp_ {l:List Sg} (h:h2_ l=true) {k:Nat} (hk:k<l.length):(s8_ l k).length≤41 * k+16:=by
 have h1:=ld_ h k (by omega)
 have h3:=ll_ h hk
 have h4:=mm_ h hk
 unfold s8_
 simp only[List.length_append,List.length_replicate]
 split<;>simp only[List.length_cons,List.length_nil]<;>omega
theorem amz_ {l:List Sg} {k:Nat} (hk:k≠0) (h:(l.getD k G0).1=(ahd l k).1):s8_ l k=ij_ l k++[44]:=by
 unfold s8_;rw[if_pos ⟨hk,h⟩,h,Int.sub_self];simp
theorem asu_ {l:List Sg} {k m:Nat} (hm:(ahd l k).1+m=(l.getD k G0).1) (hk:k≠0) (h0:m=0):ij_ l k++List.replicate m 61++[44]=s8_ l k:=by
 subst h0;rw[amz_ hk (by omega)];simp
theorem apz_ {l:List Sg} {k m:Nat} (hm:(ahd l k).1+m=(l.getD k G0).1) (h:¬(k≠0∧m=0)):ij_ l k++List.replicate m 61=s8_ l k:=by
 unfold s8_
 rw[if_neg (by omega),List.nil_append,show((l.getD k G0).1 - (ahd l k).1).toNat=m by omega]
theorem wp_ {l:List Sg} {k m:Nat} (hm:(ahd l k).1+m=(l.getD k G0).1):(if m=0 then(ahd l k).2.1 else 0)=xh_ l k:=by
 unfold xh_
 by_cases h:m=0
 ·rw[if_pos h,if_neg (by omega)]
 rw[if_neg h,if_pos (by omega)]
theorem qg_ {l:List Sg} {k:Nat} (h:k≠0):l.getD (k - 1) G0=ahd l k:=by unfold ahd;rw[if_neg h]
def lj_ (l:List Sg) (k m:Nat):Str:=ij_ l k++((if k≠0∧(l.getD k G0).1=(ahd l k).1 then [44]else [])++List.replicate m 61)
theorem asr_ (l:List Sg) (k m:Nat):lj_ l k (m+1)=lj_ l k m++[61]:=by unfold lj_;rw[List.replicate_succ'];simp only[List.append_assoc]
theorem ate_ {l:List Sg} {k m:Nat} (hm:(ahd l k).1+m=(l.getD k G0).1):lj_ l k m=s8_ l k:=by unfold lj_ s8_;rw[show((l.getD k G0).1 - (ahd l k).1).toNat=m by omega]
theorem a2a_ {l:List Sg} {k:Nat} (hk:k≠0) (h:(l.getD k G0).1=(ahd l k).1):lj_ l k 0=ij_ l k++[44]:=by unfold lj_;rw[if_pos ⟨hk,h⟩];simp
theorem a2s_ {l:List Sg} {k:Nat} (h:¬(k≠0∧(l.getD k G0).1=(ahd l k).1)):lj_ l k 0=ij_ l k:=by unfold lj_;rw[if_neg h];simp
theorem al9_ {l:List Sg} (h:h2_ l=true) {k m:Nat} (hk:k<l.length) (hm:(m:Int)≤(l.getD k G0).1 - (ahd l k).1):(lj_ l k m).length≤41 * k+16:=by
 have h1:=ld_ h k (by omega)
 have h3:=ll_ h hk
 have h4:=mm_ h hk
 unfold lj_
 simp only[List.length_append,List.length_replicate]
 split<;>simp only[List.length_cons,List.length_nil]<;>omega
theorem ay6_ (m:Nat):List.replicate (m+1) (61:UInt8)=List.replicate m 61++[61]:=List.replicate_succ'
end
end Go.Proofs.YthjccajoadjicaaGreatDoor
