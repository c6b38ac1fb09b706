/- The law FnExactDeskRun answers true at every text; its arguments and the listed variable read as before. Conditions: none beyond the row's own (the listed variables hold what the text of the program lays). Conditions: none. -/
import Derived.Test.YthjccajoadjicaaGreatDoorZF50
import Derived.Test.YthjccajoadjicaaGreatDoorCards
import Derived.Test.YthjccajoadjicaaGreatDoorTie
import Derived.Test.YthjccajoadjicaaGreatDoorMs
import Derived.Lay
import Derived.MakeChecks
set_option linter.unusedVariables false
set_option linter.unusedSimpArgs false
set_option maxRecDepth 100000
set_option maxHeartbeats 8000000
namespace Go.Proofs.YthjccajoadjicaaGreatDoor.lawExactDeskRun
open Go.ChangeShapes Go.WideShapes Go.ChangeAt Go.RowKit
theorem aj7_:LaidIn Rows.fnExactDeskRunRow.laid:=by
 dsimp only[Rows.fnExactDeskRunRow]
 refine⟨?_,?_,?_,?_,by rfl⟩<;>(repeat(first|exact List.Mem.head _|apply List.Mem.tail))
/-- the world that the program's own laying leaves -/
theorem wo_ (os:Os) (args:Array Value):laidMetH Tryz.prog Rows.fnExactDeskRunRow.laid ((World.laidAll Tryz.prog os Rows.fnExactDeskRunRow.laid).forCall (fun _ _=>0) ⟨#[],args,[]⟩).memory:=
 by rw[MakeChecks.laidMetH_plain _ _ _ (by kernel_rfl)];exact laidMet_laidAll _ (by kernel_rfl) (by kernel_rfl)
theorem pu_ (H:Type) (enc:TypeId × Value→H) (W:World) (base:Nat) (args:Array Value) (ds gs:List (DataW H)) (before:List MemPlace)
  (hval:∀(j:Nat) t v,(Tryz.f3).params[j]? = some t→args[j]? = some v→Value.okWide Tryz.prog W .any base t v)
  (hW:DataW.Whole enc Tryz.prog (Tryz.f3).params.toList Rows.fnExactDeskRunSpec.vars false W args.toList ds gs before) (hL:laidMetH Tryz.prog Rows.fnExactDeskRunRow.laid W) (hS:W.ShapedOpen Tryz.prog) :
  Calls Tryz.prog 3 args W fun e W'=>∃v,e = .returned v∧Rows.fnExactDeskRunSpec.post enc Tryz.prog (Tryz.f3) false true false false W args v W':=by
 have hW':=hW
 obtain⟨p,q,hA,hV,rfl,hfz,hnd⟩:=hW
 rw[Tryz.params3]at hA hval
 obtain⟨v0,vs0,d0,ds0,p0,q0,hargs,rfl,rfl,h0,r0⟩:=trodAll_cons hA
 obtain⟨rfl,rfl,rfl⟩:=trodAll_nil r0
 obtain rfl:args=#[v0]:=by cases args;simp_all
 obtain⟨g1,t1,cs1,fu1,e1,p1,rfl,_⟩:=trodVars_one hV
 obtain⟨b0,hb0,hx0⟩:=ayf_ (hval 0 _ v0 rfl rfl) h0
 refine(ale_ (p9_ b0 hb0) (.cons hx0 VRs.nil) aj7_ hL hS).mono fun e W' ⟨he,hg⟩=>?_
 subst he
 exact⟨_,rfl,zk_ aki_ Tryz.underlying4 hW' hg (fun t ht=>by rw[Tryz.params3]at ht;simp at ht;subst ht;exact⟨by kernel_rfl,of_decide_eq_true (by kernel_rfl)⟩) a0a_ (by kernel_rfl) rfl⟩
theorem reads (os:Os) {H:Type} (enc:TypeId × Value→H):∃places,DataW.whole enc Tryz.prog ((World.laidAll Tryz.prog os Rows.fnExactDeskRunRow.laid).forCall (fun _ _=>0) ⟨#[],#[.string ⟨#[]⟩],[]⟩).memory (Tryz.f3).params.toList Rows.fnExactDeskRunSpec.vars false (#[Value.string ⟨#[]⟩]).toList 8=some ([.lit (.string [])],[.slice (ownW.map fun s=>.lit (.string s)) []],places):=by
 have h:(DataW.whole enc Tryz.prog ((World.laidAll Tryz.prog os Rows.fnExactDeskRunRow.laid).forCall (fun _ _=>0) ⟨#[],#[.string ⟨#[]⟩],[]⟩).memory (Tryz.f3).params.toList Rows.fnExactDeskRunSpec.vars false (#[Value.string ⟨#[]⟩]).toList 8).map (fun x=>(x.1,x.2.1))=some ([.lit (.string [])],[.slice (ownW.map fun s=>.lit (.string s)) []]):=by kernel_rfl
 obtain⟨⟨x1,x2,x3⟩,hx,he⟩:=Option.map_eq_some_iff.1 h
 simp only[Prod.mk.injEq]at he
 exact⟨x3,by rw[hx,he.1,he.2]⟩
theorem wok (os:Os):Input.okWideB Tryz.prog ((World.laidAll Tryz.prog os Rows.fnExactDeskRunRow.laid).forCall (fun _ _=>0) ⟨#[],#[.string ⟨#[]⟩],[]⟩) 3 ⟨#[],#[.string ⟨#[]⟩],[]⟩=true:=by kernel_rfl
theorem aiv_ (os:Os) (started:os.Started) (H:Type) (enc:TypeId × Value→H) (F:Stop.Interp) :
  ReturnsInHanded {} Tryz.checked os 3 .any ((OpenSpec.ofChange Rows.fnExactDeskRunSpec).preRow enc Tryz.prog (Tryz.f3) Rows.fnExactDeskRunRow.domain false Rows.fnExactDeskRunRow.laid) (((OpenSpec.ofChange Rows.fnExactDeskRunSpec).at F).post enc Tryz.prog (Tryz.f3) false true false false):=by
 obtain⟨places,hx⟩:=reads os enc
 refine returnsInHanded_of_row (C:=Tryz.checked) (s:=OpenSpec.ofChange Rows.fnExactDeskRunSpec) aka_ started (by kernel_rfl) Tryz.func3
  ⟨World.laidAll Tryz.prog os Rows.fnExactDeskRunRow.laid,fun _ _=>0,⟨#[],#[.string ⟨#[]⟩],[]⟩,World.laidAll_os _ _ _,World.shaped_of_ZipB (by kernel_rfl) (by kernel_rfl),(Input.okWide_of_okWideB (base:=0) (wok os)).1,(Input.okWide_of_okWideB (wok os)).2,
   (OpenSpec.preRow_of_cond 8 hx (by kernel_rfl) (fun k hk=>by cases hk) (by kernel_rfl) (wo_ os _)),by simp only[Assume.holds];exact⟨by simp,by simp,fun _=>Modest.zero,by simp,by simp⟩⟩ ?_
 intro W base args ds gs before hval hW _ _ _ hL hS _
 exact pu_ H enc W base args ds gs before hval hW hL hS
theorem named:Tryz.pinned.checked.prog.funcNamed Rows.fnExactDeskRunRow.func=some 3:=by kernel_rfl
theorem abw_:(Rows.fnExactDeskRunRow.inPlace==Program.inPlace Tryz.pinned.checked.prog 3)=true:=by kernel_rfl
theorem aap_:(Rows.fnExactDeskRunRow.unfollowed==Program.unfollowed Tryz.pinned.checked.prog 3)=true:=by kernel_rfl
theorem acb_:(Rows.fnExactDeskRunRow.recurses==Program.recurses Tryz.pinned.checked.prog 3)=true:=by kernel_rfl
theorem ab2_:(Rows.fnExactDeskRunRow.named==Program.varsNamed Tryz.pinned.checked.prog 3)=true:=by kernel_rfl
theorem closed:joinedFacts Tryz.pinned.checked.prog 3 Tryz.f3 (OpenSpec.ofChange Rows.fnExactDeskRunSpec).bare Rows.fnExactDeskRunRow=true:=by
 unfold joinedFacts
 rw[abw_,aap_,acb_,ab2_]
 kernel_rfl
theorem inst:(Tryz.f3).isInstance Tryz.pinned.checked.prog Rows.fnExactDeskRunRow.origin Rows.fnExactDeskRunRow.targs:=of_decide_eq_true (by kernel_rfl)
theorem wrapper:(Tryz.f3).isWrapper Tryz.pinned.checked.prog Rows.fnExactDeskRunRow.wrapper Rows.fnExactDeskRunRow.mainSum:=by unfold Func.isWrapper;first|(rw[if_pos (by decide +kernel)];kernel_rfl)|(rw[if_neg (by decide +kernel)];exact⟨rfl,rfl⟩)
theorem said:Rows.FnExactDeskRunSaid:=
 OpenClaim.holds_of_cond 3 Tryz.f3 rfl rfl rfl rfl rfl rfl rfl ⟨rfl,rfl,rfl,rfl,rfl⟩ rfl rfl rfl rfl rfl named Tryz.func3 closed inst wrapper
  (fun os started H enc _ F=>by rw[OpenClaim.pre_eq_preRow];exact aiv_ os started H enc F)
theorem plain (f:FuncId) (fn:Func) (hf:Tryz.pinned.checked.prog.funcNamed "loop.example/interlinear/laws.FnExactDeskRun" = some f) (hfn:Tryz.pinned.checked.prog.funcs[f]? = some fn) :
  true=Tryz.pinned.checked.prog.looks []∧∀(j:Nat) t,fn.params[j]? = some t→Tryz.pinned.checked.prog.wantsStandIn t=false:=by
 obtain rfl:f=3:=Option.some.inj (named.symm.trans hf) |>.symm
 obtain rfl:fn=Tryz.f3:=(Option.some.inj (Tryz.func3.symm.trans hfn)).symm
 refine⟨by kernel_rfl,fun j t ht=>?_⟩
 rw[Tryz.params3]at ht
 have hm:t∈[9]:=by simpa using Array.mem_of_getElem? ht
 have hall:([9].all fun u=>!Tryz.prog.wantsStandIn u)=true:=by kernel_rfl
 exact(show Tryz.prog.wantsStandIn t=false by simpa using List.all_eq_true.1 hall t hm)
theorem avv_:Rows.fnExactDeskRunRow.wfByText (OpenSpec.ofChange Rows.fnExactDeskRunSpec)=true:=by kernel_rfl
theorem asl_:Tryz.pinned.checked.prog.mainIs=some ((true, "de31d4c0ca8842cf520c729df6450bdd5f149622f2736243440bcd28c2457119").1,(true, "de31d4c0ca8842cf520c729df6450bdd5f149622f2736243440bcd28c2457119").2.toList):=by kernel_rfl
theorem ap9_:false=Rows.fnExactDeskRunRow.goesBy Tryz.pinned.checked.prog:=by kernel_rfl
theorem card:Rows.FnExactDeskRunCardSaid:=
 Claim7.holds_tied_plain_at .later [] [.data,.data,.data,.data,.sentinel,.sentinel,.widerDeep,.pinned] true (true, "de31d4c0ca8842cf520c729df6450bdd5f149622f2736243440bcd28c2457119") true said (fun _ h=>by cases h) avv_ (fun _ h=>by cases h) fnExactDeskRun_row_tie rfl ⟨rfl,rfl⟩ asl_ rfl plain ap9_
end Go.Proofs.YthjccajoadjicaaGreatDoor.lawExactDeskRun
