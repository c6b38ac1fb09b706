/- The law FnExactBookText answers true at every list of pages; its arguments and the listed variable read as before. Conditions: none beyond the row's own (the listed variables hold what the text of the program lays). Conditions: none. -/
import Derived.Test.YtpikbndepapbhabGreatDoorKk
import Derived.Test.YtpikbndepapbhabGreatDoorZF36
import Derived.Test.YtpikbndepapbhabGreatDoorCards
import Derived.Test.YtpikbndepapbhabGreatDoorTie
import Derived.Test.YtpikbndepapbhabGreatDoorK17
set_option linter.unusedVariables false
set_option linter.unusedSimpArgs false
namespace Go.Proofs.YtpikbndepapbhabGreatDoor.lawExactBookText
open Go.ChangeShapes Go.WideShapes Go.ChangeAt Go.RowKit
set_option maxRecDepth 100000
theorem ij_ : LaidIn Rows.fnExactBookTextRow.laid := by
 dsimp only [Rows.fnExactBookTextRow]
 refine ⟨?_, ?_, ?_, ?_, by rfl⟩ <;> (repeat (first | exact List.Mem.head _ | apply List.Mem.tail))
/-- the world that the program's own laying leaves -/
theorem e7_ (os : Os) (args : Array Value) : laidMetH Tryz.prog Rows.fnExactBookTextRow.laid ((World.doorLaid Tryz.prog 400 os).forCall (fun _ _ => 0) ⟨#[], args, []⟩).memory :=
 laidMet_of_run' 8 (by kernel_rfl) (by kernel_rfl)
theorem eo_ (H : Type) (enc : TypeId × Value → H) (W : World) (base : Nat) (args : Array Value) (ds gs : List (DataW H)) (before : List MemPlace)
  (hval : ∀ (j : Nat) t v, (Tryz.f11).params[j]? = some t → args[j]? = some v → Value.okWide Tryz.prog W .any base t v)
  (hW : DataW.Whole enc Tryz.prog (Tryz.f11).params.toList Rows.fnExactBookTextSpec.vars false W args.toList ds gs before) (hL : laidMetH Tryz.prog Rows.fnExactBookTextRow.laid W) (hS : W.ShapedOpen Tryz.prog) :
  Calls Tryz.prog 11 args W fun e W' => ∃ v, e = .returned v ∧ Rows.fnExactBookTextSpec.post enc Tryz.prog (Tryz.f11) false true false false W args v W' := by
 have hW' := hW
 obtain ⟨p, q, hA, hV, rfl, hfz, hnd⟩ := hW
 rw [Tryz.params11] at hA hval
 obtain ⟨v0, vs0, d0, ds0, p0, q0, hargs, rfl, rfl, h0, r0⟩ := trodAll_cons hA
 obtain ⟨rfl, rfl, rfl⟩ := trodAll_nil r0
 obtain rfl : args = #[v0] := by cases args; simp_all
 obtain ⟨g1, t1, cs1, fu1, e1, p1, rfl, _⟩ := trodVars_one hV
 obtain ⟨b0, hb0, hx0⟩ := mg_ (hval 0 _ v0 rfl rfl) h0
 refine (kn_ (j1_ b0 hb0) (.cons hx0 VRs.nil) ij_ hL hS).mono fun e W' ⟨he, hg⟩ => ?_
 subst he
 exact ⟨_, rfl, hk_ k3_ Tryz.underlying4 hW' hg (fun t ht => by rw [Tryz.params11] at ht; simp at ht; subst ht; exact ⟨by kernel_rfl, of_decide_eq_true (by kernel_rfl)⟩) tu_ (by kernel_rfl) rfl⟩
theorem reads (os : Os) {H : Type} (enc : TypeId × Value → H) : ∃ places, DataW.whole enc Tryz.prog ((World.doorLaid Tryz.prog 400 os).forCall (fun _ _ => 0) ⟨#[], #[.slice none 0 0], []⟩).memory (Tryz.f11).params.toList Rows.fnExactBookTextSpec.vars false (#[Value.slice none 0 0]).toList 8 = some ([.nil], [.slice (ownW.map fun s => .lit (.string s)) []], places) := by
 have h : (DataW.whole enc Tryz.prog ((World.doorLaid Tryz.prog 400 os).forCall (fun _ _ => 0) ⟨#[], #[.slice none 0 0], []⟩).memory (Tryz.f11).params.toList Rows.fnExactBookTextSpec.vars false (#[Value.slice none 0 0]).toList 8).map (fun x => (x.1, x.2.1)) = some ([.nil], [.slice (ownW.map fun s => .lit (.string s)) []]) := by kernel_rfl
 obtain ⟨⟨x1, x2, x3⟩, hx, he⟩ := Option.map_eq_some_iff.1 h
 simp only [Prod.mk.injEq] at he
 exact ⟨x3, by rw [hx, he.1, he.2]⟩
theorem ih_ (os : Os) (started : os.Started) (H : Type) (enc : TypeId × Value → H) (F : Stop.Interp) :
  ReturnsInHanded {} Tryz.checked os 11 .any ((OpenSpec.ofChange Rows.fnExactBookTextSpec).preRow enc Tryz.prog (Tryz.f11) Rows.fnExactBookTextRow.domain false Rows.fnExactBookTextRow.laid) (((OpenSpec.ofChange Rows.fnExactBookTextSpec).at F).post enc Tryz.prog (Tryz.f11) false true false false) := by
 obtain ⟨places, hx⟩ := reads os enc
 refine returnsInHanded_of_row (C := Tryz.checked) (s := OpenSpec.ofChange Rows.fnExactBookTextSpec) kr_ started (by kernel_rfl) Tryz.func11
  (witness_row_atRef (enc := enc) (C := Tryz.checked) false (World.doorLaid Tryz.prog 400 os) #[.slice none 0 0] rfl (by kernel_rfl) (by kernel_rfl) (by kernel_rfl)
   (OpenSpec.preRow_of_cond 8 hx (by kernel_rfl) (fun k hk => by cases hk) (by kernel_rfl) (e7_ os _))) ?_
 intro W base args ds gs before hval hW _ _ _ hL hS _
 exact eo_ H enc W base args ds gs before hval hW hL hS
theorem named : Tryz.pinned.checked.prog.funcNamed Rows.fnExactBookTextRow.func = some 11 := by kernel_rfl
theorem gi_ : (Rows.fnExactBookTextRow.inPlace == Program.inPlace Tryz.pinned.checked.prog 11) = true := by kernel_rfl
theorem ge_ : (Rows.fnExactBookTextRow.unfollowed == Program.unfollowed Tryz.pinned.checked.prog 11) = true := by kernel_rfl
theorem gg_ : (Rows.fnExactBookTextRow.recurses == Program.recurses Tryz.pinned.checked.prog 11) = true := by kernel_rfl
theorem gh_ : (Rows.fnExactBookTextRow.named == Program.varsNamed Tryz.pinned.checked.prog 11) = true := by kernel_rfl
theorem closed : joinedFacts Tryz.pinned.checked.prog 11 Tryz.f11 (OpenSpec.ofChange Rows.fnExactBookTextSpec).bare Rows.fnExactBookTextRow = true := by
 unfold joinedFacts
 rw [gi_, ge_, gg_, gh_]
 kernel_rfl
theorem r1_ : (Tryz.f11).isInstance Tryz.pinned.checked.prog Rows.fnExactBookTextRow.origin Rows.fnExactBookTextRow.targs := of_decide_eq_true (by kernel_rfl)
theorem wrapper : (Tryz.f11).isWrapper Tryz.pinned.checked.prog Rows.fnExactBookTextRow.wrapper Rows.fnExactBookTextRow.mainSum := by unfold Func.isWrapper; first | (rw [if_pos (by decide +kernel)]; kernel_rfl) | (rw [if_neg (by decide +kernel)]; exact ⟨rfl, rfl⟩)
theorem sa_ : Rows.FnExactBookTextSaid :=
 OpenClaim.holds_of_cond 11 Tryz.f11 rfl rfl rfl rfl rfl rfl rfl ⟨rfl, rfl, rfl, rfl, rfl⟩ rfl rfl rfl rfl rfl named Tryz.func11 closed r1_ wrapper
  (fun os started H enc _ F => by rw [OpenClaim.pre_eq_preRow]; exact ih_ os started H enc F)
theorem plain (f : FuncId) (fn : Func) (hf : Tryz.pinned.checked.prog.funcNamed "loop.example/interlinear/laws.FnExactBookText" = some f) (hfn : Tryz.pinned.checked.prog.funcs[f]? = some fn) :
  true = Tryz.pinned.checked.prog.looks [] ∧ ∀ (j : Nat) t, fn.params[j]? = some t → Tryz.pinned.checked.prog.wantsStandIn t = false := by
 obtain rfl : f = 11 := Option.some.inj (named.symm.trans hf) |>.symm
 obtain rfl : fn = Tryz.f11 := (Option.some.inj (Tryz.func11.symm.trans hfn)).symm
 refine ⟨by kernel_rfl, fun j t ht => ?_⟩
 rw [Tryz.params11] at ht
 have hm : t ∈ [62] := by simpa using Array.mem_of_getElem? ht
 have hall : ([62].all fun u => !Tryz.prog.wantsStandIn u) = true := by kernel_rfl
 exact (show Tryz.prog.wantsStandIn t = false by simpa using List.all_eq_true.1 hall t hm)
theorem kb_ : Rows.fnExactBookTextRow.wfByText (OpenSpec.ofChange Rows.fnExactBookTextSpec) = true := by kernel_rfl
theorem kc_ : Tryz.pinned.checked.prog.mainIs = some ((true, "6b6dc4f281d91a1700c78a69e3876cbb34e3248cf5233aab4d189b0cfe17917e").1, (true, "6b6dc4f281d91a1700c78a69e3876cbb34e3248cf5233aab4d189b0cfe17917e").2.toList) := by kernel_rfl
theorem lj_ : false = Rows.fnExactBookTextRow.goesBy Tryz.pinned.checked.prog := by kernel_rfl
theorem card : Rows.FnExactBookTextCardSaid :=
 Claim7.holds_tied_plain_at .later [] [.data, .data, .data, .sentinel, .sentinel, .widerDeep] true (true, "6b6dc4f281d91a1700c78a69e3876cbb34e3248cf5233aab4d189b0cfe17917e") true sa_ (fun _ h => by cases h) kb_ (fun _ h => by cases h) fnExactBookText_row_tie rfl ⟨rfl, rfl⟩ kc_ rfl plain lj_
end Go.Proofs.YtpikbndepapbhabGreatDoor.lawExactBookText
