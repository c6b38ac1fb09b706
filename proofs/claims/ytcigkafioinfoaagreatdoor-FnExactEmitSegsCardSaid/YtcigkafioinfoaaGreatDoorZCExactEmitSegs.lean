/- The law FnExactEmitSegs answers true at every list of lines; its arguments and the listed variable read as before. Conditions: none beyond the row's own (the listed variables hold what the text of the program lays). Conditions: none. -/
import Derived.Test.YtcigkafioinfoaaGreatDoorKk
import Derived.Test.YtcigkafioinfoaaGreatDoorZF40
import Derived.Test.YtcigkafioinfoaaGreatDoorCards
import Derived.Test.YtcigkafioinfoaaGreatDoorTie
import Derived.Test.YtcigkafioinfoaaGreatDoorKq2
set_option linter.unusedVariables false
set_option linter.unusedSimpArgs false
namespace Go.Proofs.YtcigkafioinfoaaGreatDoor.lawExactEmitSegs
open Go.ChangeShapes Go.WideShapes Go.ChangeAt Go.RowKit
set_option maxRecDepth 100000
theorem us_ : LaidIn Rows.fnExactEmitSegsRow.laid := by
 dsimp only [Rows.fnExactEmitSegsRow]
 refine ⟨?_, ?_, ?_, ?_, by rfl⟩ <;> (repeat (first | exact List.Mem.head _ | apply List.Mem.tail))
/-- the world that the program's own laying leaves -/
theorem ov_ (os : Os) (args : Array Value) : laidMetH Tryz.prog Rows.fnExactEmitSegsRow.laid ((World.doorLaid Tryz.prog 400 os).forCall (fun _ _ => 0) ⟨#[], args, []⟩).memory :=
 laidMet_of_run' 8 (by kernel_rfl) (by kernel_rfl)
theorem ky_ (H : Type) (enc : TypeId × Value → H) (W : World) (base : Nat) (args : Array Value) (ds gs : List (DataW H)) (before : List MemPlace)
  (hval : ∀ (j : Nat) t v, (Tryz.f6).params[j]? = some t → args[j]? = some v → Value.okWide Tryz.prog W .any base t v)
  (hW : DataW.Whole enc Tryz.prog (Tryz.f6).params.toList Rows.fnExactEmitSegsSpec.vars false W args.toList ds gs before) (hL : laidMetH Tryz.prog Rows.fnExactEmitSegsRow.laid W) (hS : W.ShapedOpen Tryz.prog) :
  Calls Tryz.prog 6 args W fun e W' => ∃ v, e = .returned v ∧ Rows.fnExactEmitSegsSpec.post enc Tryz.prog (Tryz.f6) false true false false W args v W' := by
 have hW' := hW
 obtain ⟨p, q, hA, hV, rfl, hfz, hnd⟩ := hW
 rw [Tryz.params6] at hA hval
 obtain ⟨v0, vs0, d0, ds0, p0, q0, hargs, rfl, rfl, h0, r0⟩ := trodAll_cons hA
 obtain ⟨rfl, rfl, rfl⟩ := trodAll_nil r0
 obtain rfl : args = #[v0] := by cases args; simp_all
 obtain ⟨g1, t1, cs1, fu1, e1, p1, rfl, _⟩ := trodVars_one hV
 obtain ⟨b0, hb0, hx0⟩ := y3_ (hval 0 _ v0 rfl rfl) h0
 refine (v2_ (j0_ b0 hb0) (.cons hx0 VRs.nil) us_ hL hS).mono fun e W' ⟨he, hg⟩ => ?_
 subst he
 exact ⟨_, rfl, p0_ wu_ Tryz.underlying4 hW' hg (fun t ht => by rw [Tryz.params6] at ht; simp at ht; subst ht; exact ⟨by kernel_rfl, of_decide_eq_true (by kernel_rfl)⟩) afv_ (by kernel_rfl) rfl⟩
theorem reads (os : Os) {H : Type} (enc : TypeId × Value → H) : ∃ places, DataW.whole enc Tryz.prog ((World.doorLaid Tryz.prog 400 os).forCall (fun _ _ => 0) ⟨#[], #[.slice none 0 0], []⟩).memory (Tryz.f6).params.toList Rows.fnExactEmitSegsSpec.vars false (#[Value.slice none 0 0]).toList 8 = some ([.nil], [.slice (ownW.map fun s => .lit (.string s)) []], places) := by
 have h : (DataW.whole enc Tryz.prog ((World.doorLaid Tryz.prog 400 os).forCall (fun _ _ => 0) ⟨#[], #[.slice none 0 0], []⟩).memory (Tryz.f6).params.toList Rows.fnExactEmitSegsSpec.vars false (#[Value.slice none 0 0]).toList 8).map (fun x => (x.1, x.2.1)) = some ([.nil], [.slice (ownW.map fun s => .lit (.string s)) []]) := by kernel_rfl
 obtain ⟨⟨x1, x2, x3⟩, hx, he⟩ := Option.map_eq_some_iff.1 h
 simp only [Prod.mk.injEq] at he
 exact ⟨x3, by rw [hx, he.1, he.2]⟩
theorem vu_ (os : Os) (started : os.Started) (H : Type) (enc : TypeId × Value → H) (F : Stop.Interp) :
  ReturnsInHanded {} Tryz.checked os 6 .any ((OpenSpec.ofChange Rows.fnExactEmitSegsSpec).preRow enc Tryz.prog (Tryz.f6) Rows.fnExactEmitSegsRow.domain false Rows.fnExactEmitSegsRow.laid) (((OpenSpec.ofChange Rows.fnExactEmitSegsSpec).at F).post enc Tryz.prog (Tryz.f6) false true false false) := by
 obtain ⟨places, hx⟩ := reads os enc
 refine returnsInHanded_of_row (C := Tryz.checked) (s := OpenSpec.ofChange Rows.fnExactEmitSegsSpec) w3_ started (by kernel_rfl) Tryz.func6
  (witness_row_atRef (enc := enc) (C := Tryz.checked) false (World.doorLaid Tryz.prog 400 os) #[.slice none 0 0] rfl (by kernel_rfl) (by kernel_rfl) (by kernel_rfl)
   (OpenSpec.preRow_of_cond 8 hx (by kernel_rfl) (fun k hk => by cases hk) (by kernel_rfl) (ov_ os _))) ?_
 intro W base args ds gs before hval hW _ _ _ hL hS _
 exact ky_ H enc W base args ds gs before hval hW hL hS
theorem named : Tryz.pinned.checked.prog.funcNamed Rows.fnExactEmitSegsRow.func = some 6 := by kernel_rfl
theorem q2_ : (Rows.fnExactEmitSegsRow.inPlace == Program.inPlace Tryz.pinned.checked.prog 6) = true := by kernel_rfl
theorem rx_ : (Rows.fnExactEmitSegsRow.unfollowed == Program.unfollowed Tryz.pinned.checked.prog 6) = true := by kernel_rfl
theorem ro_ : (Rows.fnExactEmitSegsRow.recurses == Program.recurses Tryz.pinned.checked.prog 6) = true := by kernel_rfl
theorem qx_ : (Rows.fnExactEmitSegsRow.named == Program.varsNamed Tryz.pinned.checked.prog 6) = true := by kernel_rfl
theorem closed : joinedFacts Tryz.pinned.checked.prog 6 Tryz.f6 (OpenSpec.ofChange Rows.fnExactEmitSegsSpec).bare Rows.fnExactEmitSegsRow = true := by
 unfold joinedFacts
 rw [q2_, rx_, ro_, qx_]
 kernel_rfl
theorem inst : (Tryz.f6).isInstance Tryz.pinned.checked.prog Rows.fnExactEmitSegsRow.origin Rows.fnExactEmitSegsRow.targs := of_decide_eq_true (by kernel_rfl)
theorem wrapper : (Tryz.f6).isWrapper Tryz.pinned.checked.prog Rows.fnExactEmitSegsRow.wrapper Rows.fnExactEmitSegsRow.mainSum := by unfold Func.isWrapper; first | (rw [if_pos (by decide +kernel)]; kernel_rfl) | (rw [if_neg (by decide +kernel)]; exact ⟨rfl, rfl⟩)
theorem said : Rows.FnExactEmitSegsSaid :=
 OpenClaim.holds_of_cond 6 Tryz.f6 rfl rfl rfl rfl rfl rfl rfl ⟨rfl, rfl, rfl, rfl, rfl⟩ rfl rfl rfl rfl rfl named Tryz.func6 closed inst wrapper
  (fun os started H enc _ F => by rw [OpenClaim.pre_eq_preRow]; exact vu_ os started H enc F)
theorem plain (f : FuncId) (fn : Func) (hf : Tryz.pinned.checked.prog.funcNamed "loop.example/interlinear/laws.FnExactEmitSegs" = some f) (hfn : Tryz.pinned.checked.prog.funcs[f]? = some fn) :
  true = Tryz.pinned.checked.prog.looks [] ∧ ∀ (j : Nat) t, fn.params[j]? = some t → Tryz.pinned.checked.prog.wantsStandIn t = false := by
 obtain rfl : f = 6 := Option.some.inj (named.symm.trans hf) |>.symm
 obtain rfl : fn = Tryz.f6 := (Option.some.inj (Tryz.func6.symm.trans hfn)).symm
 refine ⟨by kernel_rfl, fun j t ht => ?_⟩
 rw [Tryz.params6] at ht
 have hm : t ∈ [64] := by simpa using Array.mem_of_getElem? ht
 have hall : ([64].all fun u => !Tryz.prog.wantsStandIn u) = true := by kernel_rfl
 exact (show Tryz.prog.wantsStandIn t = false by simpa using List.all_eq_true.1 hall t hm)
theorem aa1_ : Rows.fnExactEmitSegsRow.wfByText (OpenSpec.ofChange Rows.fnExactEmitSegsSpec) = true := by kernel_rfl
theorem aa3_ : Tryz.pinned.checked.prog.mainIs = some ((true, "3b61f87f0888579ed5c8d7ab4d54c3f42198c4481f608d37bf427c6df0104f69").1, (true, "3b61f87f0888579ed5c8d7ab4d54c3f42198c4481f608d37bf427c6df0104f69").2.toList) := by kernel_rfl
theorem abl_ : false = Rows.fnExactEmitSegsRow.goesBy Tryz.pinned.checked.prog := by kernel_rfl
theorem card : Rows.FnExactEmitSegsCardSaid :=
 Claim7.holds_tied_plain_at .later [] [.data, .data, .data, .sentinel, .sentinel, .widerDeep] true (true, "3b61f87f0888579ed5c8d7ab4d54c3f42198c4481f608d37bf427c6df0104f69") true said (fun _ h => by cases h) aa1_ (fun _ h => by cases h) fnExactEmitSegs_row_tie rfl ⟨rfl, rfl⟩ aa3_ rfl plain abl_
end Go.Proofs.YtcigkafioinfoaaGreatDoor.lawExactEmitSegs
