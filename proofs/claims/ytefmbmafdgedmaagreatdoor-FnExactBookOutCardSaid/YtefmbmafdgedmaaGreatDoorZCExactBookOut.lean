/- The law FnExactBookOut answers true at every list of pages and number; its arguments and the listed variable read as before. Conditions: none beyond the row's own (the listed variables hold what the text of the program lays). Conditions: none. -/
import Derived.Test.YtefmbmafdgedmaaGreatDoorKk
import Derived.Test.YtefmbmafdgedmaaGreatDoorZF47
import Derived.Test.YtefmbmafdgedmaaGreatDoorCards
import Derived.Test.YtefmbmafdgedmaaGreatDoorTie
import Derived.Test.YtefmbmafdgedmaaGreatDoorKl
import Derived.Test.YtefmbmafdgedmaaGreatDoorKz2
set_option linter.unusedVariables false
set_option linter.unusedSimpArgs false
namespace Go.Proofs.YtefmbmafdgedmaaGreatDoor.lawExactBookOut
open Go.ChangeShapes Go.WideShapes Go.ChangeAt Go.RowKit
set_option maxRecDepth 100000
theorem pp_ : LaidIn Rows.fnExactBookOutRow.laid := by
 dsimp only [Rows.fnExactBookOutRow]
 refine ⟨?_, ?_, ?_, ?_, by rfl⟩ <;> (repeat (first | exact List.Mem.head _ | apply List.Mem.tail))
/-- the world that the program's own laying leaves -/
theorem j1_ (os : Os) (args : Array Value) : laidMetH Tryz.prog Rows.fnExactBookOutRow.laid ((World.doorLaid Tryz.prog 400 os).forCall (fun _ _ => 0) ⟨#[], args, []⟩).memory :=
 laidMet_of_run' 8 (by kernel_rfl) (by kernel_rfl)
theorem ir_ (H : Type) (enc : TypeId × Value → H) (W : World) (base : Nat) (args : Array Value) (ds gs : List (DataW H)) (before : List MemPlace)
  (hval : ∀ (j : Nat) t v, (Tryz.f8).params[j]? = some t → args[j]? = some v → Value.okWide Tryz.prog W .any base t v)
  (hW : DataW.Whole enc Tryz.prog (Tryz.f8).params.toList Rows.fnExactBookOutSpec.vars false W args.toList ds gs before) (hL : laidMetH Tryz.prog Rows.fnExactBookOutRow.laid W) (hS : W.ShapedOpen Tryz.prog) :
  Calls Tryz.prog 8 args W fun e W' => ∃ v, e = .returned v ∧ Rows.fnExactBookOutSpec.post enc Tryz.prog (Tryz.f8) false true false false W args v W' := by
 have hW' := hW
 obtain ⟨p, q, hA, hV, rfl, hfz, hnd⟩ := hW
 rw [Tryz.params8] at hA hval
 obtain ⟨v0, vs0, d0, ds0, p0, q0, hargs, rfl, rfl, h0, r0⟩ := trodAll_cons hA
 obtain ⟨v1, vs1, d1, ds1, p1, q1, rfl, rfl, rfl, h1, r1⟩ := trodAll_cons r0
 obtain ⟨rfl, rfl, rfl⟩ := trodAll_nil r1
 obtain rfl : args = #[v0, v1] := by cases args; simp_all
 obtain ⟨g1, t1, cs1, fu1, e1, p1, rfl, _⟩ := trodVars_one hV
 obtain ⟨b0, hb0, hx0⟩ := np_ (hval 0 _ v0 rfl rfl) h0
 obtain ⟨b1, hb1, hx1⟩ := uq_ (hval 1 _ v1 rfl rfl) h1
 refine (t2_ (lz_ b0 b1 hb0 hb1) (.cons hx0 (.cons hx1 VRs.nil)) pp_ hL hS).mono fun e W' ⟨he, hg⟩ => ?_
 subst he
 exact ⟨_, rfl, nd_ to_ Tryz.underlying4 hW' hg (fun t ht => by rw [Tryz.params8] at ht; simp at ht; rcases ht with rfl | rfl <;> exact ⟨by kernel_rfl, of_decide_eq_true (by kernel_rfl)⟩) agv_ (by kernel_rfl) rfl⟩
theorem reads (os : Os) {H : Type} (enc : TypeId × Value → H) : ∃ places, DataW.whole enc Tryz.prog ((World.doorLaid Tryz.prog 400 os).forCall (fun _ _ => 0) ⟨#[], #[.slice none 0 0, .int .i64 0], []⟩).memory (Tryz.f8).params.toList Rows.fnExactBookOutSpec.vars false (#[Value.slice none 0 0, Value.int .i64 0]).toList 8 = some ([.nil, .lit (.int .i64 0)], [.slice (ownW.map fun s => .lit (.string s)) []], places) := by
 have h : (DataW.whole enc Tryz.prog ((World.doorLaid Tryz.prog 400 os).forCall (fun _ _ => 0) ⟨#[], #[.slice none 0 0, .int .i64 0], []⟩).memory (Tryz.f8).params.toList Rows.fnExactBookOutSpec.vars false (#[Value.slice none 0 0, Value.int .i64 0]).toList 8).map (fun x => (x.1, x.2.1)) = some ([.nil, .lit (.int .i64 0)], [.slice (ownW.map fun s => .lit (.string s)) []]) := by kernel_rfl
 obtain ⟨⟨x1, x2, x3⟩, hx, he⟩ := Option.map_eq_some_iff.1 h
 simp only [Prod.mk.injEq] at he
 exact ⟨x3, by rw [hx, he.1, he.2]⟩
theorem rf_ (os : Os) (started : os.Started) (H : Type) (enc : TypeId × Value → H) (F : Stop.Interp) :
  ReturnsInHanded {} Tryz.checked os 8 .any ((OpenSpec.ofChange Rows.fnExactBookOutSpec).preRow enc Tryz.prog (Tryz.f8) Rows.fnExactBookOutRow.domain false Rows.fnExactBookOutRow.laid) (((OpenSpec.ofChange Rows.fnExactBookOutSpec).at F).post enc Tryz.prog (Tryz.f8) false true false false) := by
 obtain ⟨places, hx⟩ := reads os enc
 refine returnsInHanded_of_row (C := Tryz.checked) (s := OpenSpec.ofChange Rows.fnExactBookOutSpec) tz_ started (by kernel_rfl) Tryz.func8
  (witness_row_atRef (enc := enc) (C := Tryz.checked) false (World.doorLaid Tryz.prog 400 os) #[.slice none 0 0, .int .i64 0] rfl (by kernel_rfl) (by kernel_rfl) (by kernel_rfl)
   (OpenSpec.preRow_of_cond 8 hx (by kernel_rfl) (fun k hk => by cases hk) (by kernel_rfl) (j1_ os _))) ?_
 intro W base args ds gs before hval hW _ _ _ hL hS _
 exact ir_ H enc W base args ds gs before hval hW hL hS
theorem named : Tryz.pinned.checked.prog.funcNamed Rows.fnExactBookOutRow.func = some 8 := by kernel_rfl
theorem ms_ : (Rows.fnExactBookOutRow.inPlace == Program.inPlace Tryz.pinned.checked.prog 8) = true := by kernel_rfl
theorem lx_ : (Rows.fnExactBookOutRow.unfollowed == Program.unfollowed Tryz.pinned.checked.prog 8) = true := by kernel_rfl
theorem l8_ : (Rows.fnExactBookOutRow.recurses == Program.recurses Tryz.pinned.checked.prog 8) = true := by kernel_rfl
theorem mk_ : (Rows.fnExactBookOutRow.named == Program.varsNamed Tryz.pinned.checked.prog 8) = true := by kernel_rfl
theorem closed : joinedFacts Tryz.pinned.checked.prog 8 Tryz.f8 (OpenSpec.ofChange Rows.fnExactBookOutSpec).bare Rows.fnExactBookOutRow = true := by
 unfold joinedFacts
 rw [ms_, lx_, l8_, mk_]
 kernel_rfl
theorem inst : (Tryz.f8).isInstance Tryz.pinned.checked.prog Rows.fnExactBookOutRow.origin Rows.fnExactBookOutRow.targs := of_decide_eq_true (by kernel_rfl)
theorem wrapper : (Tryz.f8).isWrapper Tryz.pinned.checked.prog Rows.fnExactBookOutRow.wrapper Rows.fnExactBookOutRow.mainSum := by unfold Func.isWrapper; first | (rw [if_pos (by decide +kernel)]; kernel_rfl) | (rw [if_neg (by decide +kernel)]; exact ⟨rfl, rfl⟩)
theorem said : Rows.FnExactBookOutSaid :=
 OpenClaim.holds_of_cond 8 Tryz.f8 rfl rfl rfl rfl rfl rfl rfl ⟨rfl, rfl, rfl, rfl, rfl⟩ rfl rfl rfl rfl rfl named Tryz.func8 closed inst wrapper
  (fun os started H enc _ F => by rw [OpenClaim.pre_eq_preRow]; exact rf_ os started H enc F)
theorem plain (f : FuncId) (fn : Func) (hf : Tryz.pinned.checked.prog.funcNamed "loop.example/interlinear/laws.FnExactBookOut" = some f) (hfn : Tryz.pinned.checked.prog.funcs[f]? = some fn) :
  true = Tryz.pinned.checked.prog.looks [] ∧ ∀ (j : Nat) t, fn.params[j]? = some t → Tryz.pinned.checked.prog.wantsStandIn t = false := by
 obtain rfl : f = 8 := Option.some.inj (named.symm.trans hf) |>.symm
 obtain rfl : fn = Tryz.f8 := (Option.some.inj (Tryz.func8.symm.trans hfn)).symm
 refine ⟨by kernel_rfl, fun j t ht => ?_⟩
 rw [Tryz.params8] at ht
 have hm : t ∈ [60, 3] := by simpa using Array.mem_of_getElem? ht
 have hall : ([60, 3].all fun u => !Tryz.prog.wantsStandIn u) = true := by kernel_rfl
 exact (show Tryz.prog.wantsStandIn t = false by simpa using List.all_eq_true.1 hall t hm)
theorem xj_ : Rows.fnExactBookOutRow.wfByText (OpenSpec.ofChange Rows.fnExactBookOutSpec) = true := by kernel_rfl
theorem we_ : Tryz.pinned.checked.prog.mainIs = some ((true, "7addb6edbeac9053f6e543b6a53f6ed72fe18f0cd9e4f2ff72d6720c29e49501").1, (true, "7addb6edbeac9053f6e543b6a53f6ed72fe18f0cd9e4f2ff72d6720c29e49501").2.toList) := by kernel_rfl
theorem wy_ : false = Rows.fnExactBookOutRow.goesBy Tryz.pinned.checked.prog := by kernel_rfl
theorem card : Rows.FnExactBookOutCardSaid :=
 Claim7.holds_tied_plain_at .later [] [.data, .data, .data, .sentinel, .sentinel, .widerDeep] true (true, "7addb6edbeac9053f6e543b6a53f6ed72fe18f0cd9e4f2ff72d6720c29e49501") true said (fun _ h => by cases h) xj_ (fun _ h => by cases h) fnExactBookOut_row_tie rfl ⟨rfl, rfl⟩ we_ rfl plain wy_
end Go.Proofs.YtefmbmafdgedmaaGreatDoor.lawExactBookOut
