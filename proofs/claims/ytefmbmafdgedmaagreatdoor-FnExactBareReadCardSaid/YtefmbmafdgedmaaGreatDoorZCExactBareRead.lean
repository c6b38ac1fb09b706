/- The law FnExactBareRead answers true at every text; its arguments and the listed variable read as before. Conditions: none beyond the row's own (the listed variables hold what the text of the program lays). Conditions: none. -/
import Derived.Test.YtefmbmafdgedmaaGreatDoorKk
import Derived.Test.YtefmbmafdgedmaaGreatDoorZF49
import Derived.Test.YtefmbmafdgedmaaGreatDoorCards
import Derived.Test.YtefmbmafdgedmaaGreatDoorTie
import Derived.Test.YtefmbmafdgedmaaGreatDoorKl
set_option linter.unusedVariables false
set_option linter.unusedSimpArgs false
namespace Go.Proofs.YtefmbmafdgedmaaGreatDoor.lawExactBareRead
open Go.ChangeShapes Go.WideShapes Go.ChangeAt Go.RowKit
set_option maxRecDepth 100000
theorem afm_ : LaidIn Rows.fnExactBareReadRow.laid := by
 dsimp only [Rows.fnExactBareReadRow]
 refine ⟨?_, ?_, ?_, ?_, by rfl⟩ <;> (repeat (first | exact List.Mem.head _ | apply List.Mem.tail))
/-- the world that the program's own laying leaves -/
theorem aas_ (os : Os) (args : Array Value) : laidMetH Tryz.prog Rows.fnExactBareReadRow.laid ((World.doorLaid Tryz.prog 400 os).forCall (fun _ _ => 0) ⟨#[], args, []⟩).memory :=
 laidMet_of_run' 8 (by kernel_rfl) (by kernel_rfl)
theorem sh_ (H : Type) (enc : TypeId × Value → H) (W : World) (base : Nat) (args : Array Value) (ds gs : List (DataW H)) (before : List MemPlace)
  (hval : ∀ (j : Nat) t v, (Tryz.f4).params[j]? = some t → args[j]? = some v → Value.okWide Tryz.prog W .any base t v)
  (hW : DataW.Whole enc Tryz.prog (Tryz.f4).params.toList Rows.fnExactBareReadSpec.vars false W args.toList ds gs before) (hL : laidMetH Tryz.prog Rows.fnExactBareReadRow.laid W) (hS : W.ShapedOpen Tryz.prog) :
  Calls Tryz.prog 4 args W fun e W' => ∃ v, e = .returned v ∧ Rows.fnExactBareReadSpec.post enc Tryz.prog (Tryz.f4) false true false false W args v W' := by
 have hW' := hW
 obtain ⟨p, q, hA, hV, rfl, hfz, hnd⟩ := hW
 rw [Tryz.params4] at hA hval
 obtain ⟨v0, vs0, d0, ds0, p0, q0, hargs, rfl, rfl, h0, r0⟩ := trodAll_cons hA
 obtain ⟨rfl, rfl, rfl⟩ := trodAll_nil r0
 obtain rfl : args = #[v0] := by cases args; simp_all
 obtain ⟨g1, t1, cs1, fu1, e1, p1, rfl, _⟩ := trodVars_one hV
 obtain ⟨b0, hb0, hx0⟩ := ab2_ (hval 0 _ v0 rfl rfl) h0
 refine (ac3_ (jo_ b0 hb0) (.cons hx0 VRs.nil) afm_ hL hS).mono fun e W' ⟨he, hg⟩ => ?_
 subst he
 exact ⟨_, rfl, w9_ ab8_ Tryz.underlying4 hW' hg (fun t ht => by rw [Tryz.params4] at ht; simp at ht; subst ht; exact ⟨by kernel_rfl, of_decide_eq_true (by kernel_rfl)⟩) afo_ (by kernel_rfl) rfl⟩
theorem reads (os : Os) {H : Type} (enc : TypeId × Value → H) : ∃ places, DataW.whole enc Tryz.prog ((World.doorLaid Tryz.prog 400 os).forCall (fun _ _ => 0) ⟨#[], #[.string ⟨#[]⟩], []⟩).memory (Tryz.f4).params.toList Rows.fnExactBareReadSpec.vars false (#[Value.string ⟨#[]⟩]).toList 8 = some ([.lit (.string [])], [.slice (ownW.map fun s => .lit (.string s)) []], places) := by
 have h : (DataW.whole enc Tryz.prog ((World.doorLaid Tryz.prog 400 os).forCall (fun _ _ => 0) ⟨#[], #[.string ⟨#[]⟩], []⟩).memory (Tryz.f4).params.toList Rows.fnExactBareReadSpec.vars false (#[Value.string ⟨#[]⟩]).toList 8).map (fun x => (x.1, x.2.1)) = some ([.lit (.string [])], [.slice (ownW.map fun s => .lit (.string s)) []]) := by kernel_rfl
 obtain ⟨⟨x1, x2, x3⟩, hx, he⟩ := Option.map_eq_some_iff.1 h
 simp only [Prod.mk.injEq] at he
 exact ⟨x3, by rw [hx, he.1, he.2]⟩
theorem ae1_ (os : Os) (started : os.Started) (H : Type) (enc : TypeId × Value → H) (F : Stop.Interp) :
  ReturnsInHanded {} Tryz.checked os 4 .any ((OpenSpec.ofChange Rows.fnExactBareReadSpec).preRow enc Tryz.prog (Tryz.f4) Rows.fnExactBareReadRow.domain false Rows.fnExactBareReadRow.laid) (((OpenSpec.ofChange Rows.fnExactBareReadSpec).at F).post enc Tryz.prog (Tryz.f4) false true false false) := by
 obtain ⟨places, hx⟩ := reads os enc
 refine returnsInHanded_of_row (C := Tryz.checked) (s := OpenSpec.ofChange Rows.fnExactBareReadSpec) adn_ started (by kernel_rfl) Tryz.func4
  (witness_row_atRef (enc := enc) (C := Tryz.checked) false (World.doorLaid Tryz.prog 400 os) #[.string ⟨#[]⟩] rfl (by kernel_rfl) (by kernel_rfl) (by kernel_rfl)
   (OpenSpec.preRow_of_cond 8 hx (by kernel_rfl) (fun k hk => by cases hk) (by kernel_rfl) (aas_ os _))) ?_
 intro W base args ds gs before hval hW _ _ _ hL hS _
 exact sh_ H enc W base args ds gs before hval hW hL hS
theorem named : Tryz.pinned.checked.prog.funcNamed Rows.fnExactBareReadRow.func = some 4 := by kernel_rfl
theorem abp_ : (Rows.fnExactBareReadRow.inPlace == Program.inPlace Tryz.pinned.checked.prog 4) = true := by kernel_rfl
theorem ab0_ : (Rows.fnExactBareReadRow.unfollowed == Program.unfollowed Tryz.pinned.checked.prog 4) = true := by kernel_rfl
theorem abm_ : (Rows.fnExactBareReadRow.recurses == Program.recurses Tryz.pinned.checked.prog 4) = true := by kernel_rfl
theorem adl_ : (Rows.fnExactBareReadRow.named == Program.varsNamed Tryz.pinned.checked.prog 4) = true := by kernel_rfl
theorem closed : joinedFacts Tryz.pinned.checked.prog 4 Tryz.f4 (OpenSpec.ofChange Rows.fnExactBareReadSpec).bare Rows.fnExactBareReadRow = true := by
 unfold joinedFacts
 rw [abp_, ab0_, abm_, adl_]
 kernel_rfl
theorem inst : (Tryz.f4).isInstance Tryz.pinned.checked.prog Rows.fnExactBareReadRow.origin Rows.fnExactBareReadRow.targs := of_decide_eq_true (by kernel_rfl)
theorem wrapper : (Tryz.f4).isWrapper Tryz.pinned.checked.prog Rows.fnExactBareReadRow.wrapper Rows.fnExactBareReadRow.mainSum := by unfold Func.isWrapper; first | (rw [if_pos (by decide +kernel)]; kernel_rfl) | (rw [if_neg (by decide +kernel)]; exact ⟨rfl, rfl⟩)
theorem said : Rows.FnExactBareReadSaid :=
 OpenClaim.holds_of_cond 4 Tryz.f4 rfl rfl rfl rfl rfl rfl rfl ⟨rfl, rfl, rfl, rfl, rfl⟩ rfl rfl rfl rfl rfl named Tryz.func4 closed inst wrapper
  (fun os started H enc _ F => by rw [OpenClaim.pre_eq_preRow]; exact ae1_ os started H enc F)
theorem plain (f : FuncId) (fn : Func) (hf : Tryz.pinned.checked.prog.funcNamed "loop.example/interlinear/laws.FnExactBareRead" = some f) (hfn : Tryz.pinned.checked.prog.funcs[f]? = some fn) :
  true = Tryz.pinned.checked.prog.looks [] ∧ ∀ (j : Nat) t, fn.params[j]? = some t → Tryz.pinned.checked.prog.wantsStandIn t = false := by
 obtain rfl : f = 4 := Option.some.inj (named.symm.trans hf) |>.symm
 obtain rfl : fn = Tryz.f4 := (Option.some.inj (Tryz.func4.symm.trans hfn)).symm
 refine ⟨by kernel_rfl, fun j t ht => ?_⟩
 rw [Tryz.params4] at ht
 have hm : t ∈ [9] := by simpa using Array.mem_of_getElem? ht
 have hall : ([9].all fun u => !Tryz.prog.wantsStandIn u) = true := by kernel_rfl
 exact (show Tryz.prog.wantsStandIn t = false by simpa using List.all_eq_true.1 hall t hm)
theorem agt_ : Rows.fnExactBareReadRow.wfByText (OpenSpec.ofChange Rows.fnExactBareReadSpec) = true := by kernel_rfl
theorem af1_ : Tryz.pinned.checked.prog.mainIs = some ((true, "7addb6edbeac9053f6e543b6a53f6ed72fe18f0cd9e4f2ff72d6720c29e49501").1, (true, "7addb6edbeac9053f6e543b6a53f6ed72fe18f0cd9e4f2ff72d6720c29e49501").2.toList) := by kernel_rfl
theorem ag4_ : false = Rows.fnExactBareReadRow.goesBy Tryz.pinned.checked.prog := by kernel_rfl
theorem card : Rows.FnExactBareReadCardSaid :=
 Claim7.holds_tied_plain_at .later [] [.data, .data, .data, .sentinel, .sentinel, .widerDeep] true (true, "7addb6edbeac9053f6e543b6a53f6ed72fe18f0cd9e4f2ff72d6720c29e49501") true said (fun _ h => by cases h) agt_ (fun _ h => by cases h) fnExactBareRead_row_tie rfl ⟨rfl, rfl⟩ af1_ rfl plain ag4_
end Go.Proofs.YtefmbmafdgedmaaGreatDoor.lawExactBareRead
