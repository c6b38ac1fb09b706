/- The law FnBook answers true at every code of bytes; its arguments and the listed variable read as before. Conditions: none beyond the row's own (the listed variables hold what the text of the program lays). Conditions: none. -/
import Derived.Test.YtpikbndepapbhaaGreatDoorKk
import Derived.Test.YtpikbndepapbhaaGreatDoorZF33
import Derived.Test.YtpikbndepapbhaaGreatDoorCards
import Derived.Test.YtpikbndepapbhaaGreatDoorTie
import Derived.Lay
import Derived.MakeChecks
set_option linter.unusedVariables false
set_option linter.unusedSimpArgs false
namespace Go.Proofs.YtpikbndepapbhaaGreatDoor.lawBook
open Go.ChangeShapes Go.WideShapes Go.ChangeAt Go.RowKit
set_option maxRecDepth 100000
theorem ak2_ : LaidIn Rows.fnBookRow.laid := by
 dsimp only [Rows.fnBookRow]
 refine ⟨?_, ?_, ?_, ?_, by rfl⟩ <;> (repeat (first | exact List.Mem.head _ | apply List.Mem.tail))
/-- the world that the program's own laying leaves -/
theorem ade_ (os : Os) (args : Array Value) : laidMetH Tryz.prog Rows.fnBookRow.laid ((World.laidAll Tryz.prog os Rows.fnBookRow.laid).forCall (fun _ _ => 0) ⟨#[], args, []⟩).memory :=
 by rw [MakeChecks.laidMetH_plain _ _ _ (by kernel_rfl)]; exact laidMet_laidAll _ (by kernel_rfl) (by kernel_rfl)
theorem vk_ (H : Type) (enc : TypeId × Value → H) (W : World) (base : Nat) (args : Array Value) (ds gs : List (DataW H)) (before : List MemPlace)
  (hval : ∀ (j : Nat) t v, (Tryz.f10).params[j]? = some t → args[j]? = some v → Value.okWide Tryz.prog W .any base t v)
  (hW : DataW.Whole enc Tryz.prog (Tryz.f10).params.toList Rows.fnBookSpec.vars false W args.toList ds gs before) (hL : laidMetH Tryz.prog Rows.fnBookRow.laid W) (hS : W.ShapedOpen Tryz.prog) :
  Calls Tryz.prog 10 args W fun e W' => ∃ v, e = .returned v ∧ Rows.fnBookSpec.post enc Tryz.prog (Tryz.f10) false true false false W args v W' := by
 have hW' := hW
 obtain ⟨p, q, hA, hV, rfl, hfz, hnd⟩ := hW
 rw [Tryz.params10] at hA hval
 obtain ⟨v0, vs0, d0, ds0, p0, q0, hargs, rfl, rfl, h0, r0⟩ := trodAll_cons hA
 obtain ⟨rfl, rfl, rfl⟩ := trodAll_nil r0
 obtain rfl : args = #[v0] := by cases args; simp_all
 obtain ⟨g1, t1, cs1, fu1, e1, p1, rfl, _⟩ := trodVars_one hV
 obtain ⟨b0, hb0, hx0⟩ := ad4_ (hval 0 _ v0 rfl rfl) h0
 refine (ag5_ (aah_ b0) (.cons hx0 VRs.nil) ak2_ hL hS).mono fun e W' ⟨he, hg⟩ => ?_
 subst he
 exact ⟨_, rfl, aak_ aim_ Tryz.underlying4 hW' hg (fun t ht => by rw [Tryz.params10] at ht; simp at ht; subst ht; exact ⟨by kernel_rfl, of_decide_eq_true (by kernel_rfl)⟩) am7_ (by kernel_rfl) rfl⟩
theorem reads (os : Os) {H : Type} (enc : TypeId × Value → H) : ∃ places, DataW.whole enc Tryz.prog ((World.laidAll Tryz.prog os Rows.fnBookRow.laid).forCall (fun _ _ => 0) ⟨#[], #[.slice none 0 0], []⟩).memory (Tryz.f10).params.toList Rows.fnBookSpec.vars false (#[Value.slice none 0 0]).toList 8 = some ([.nil], [.slice (ownW.map fun s => .lit (.string s)) []], places) := by
 have h : (DataW.whole enc Tryz.prog ((World.laidAll Tryz.prog os Rows.fnBookRow.laid).forCall (fun _ _ => 0) ⟨#[], #[.slice none 0 0], []⟩).memory (Tryz.f10).params.toList Rows.fnBookSpec.vars false (#[Value.slice none 0 0]).toList 8).map (fun x => (x.1, x.2.1)) = some ([.nil], [.slice (ownW.map fun s => .lit (.string s)) []]) := by kernel_rfl
 obtain ⟨⟨x1, x2, x3⟩, hx, he⟩ := Option.map_eq_some_iff.1 h
 simp only [Prod.mk.injEq] at he
 exact ⟨x3, by rw [hx, he.1, he.2]⟩
theorem wok (os : Os) : Input.okWideB Tryz.prog ((World.laidAll Tryz.prog os Rows.fnBookRow.laid).forCall (fun _ _ => 0) ⟨#[], #[.slice none 0 0], []⟩) 10 ⟨#[], #[.slice none 0 0], []⟩ = true := by kernel_rfl
theorem akw_ (os : Os) (started : os.Started) (H : Type) (enc : TypeId × Value → H) (F : Stop.Interp) :
  ReturnsInHanded {} Tryz.checked os 10 .any ((OpenSpec.ofChange Rows.fnBookSpec).preRow enc Tryz.prog (Tryz.f10) Rows.fnBookRow.domain false Rows.fnBookRow.laid) (((OpenSpec.ofChange Rows.fnBookSpec).at F).post enc Tryz.prog (Tryz.f10) false true false false) := by
 obtain ⟨places, hx⟩ := reads os enc
 refine returnsInHanded_of_row (C := Tryz.checked) (s := OpenSpec.ofChange Rows.fnBookSpec) ah6_ started (by kernel_rfl) Tryz.func10
  ⟨World.laidAll Tryz.prog os Rows.fnBookRow.laid, fun _ _ => 0, ⟨#[], #[.slice none 0 0], []⟩, World.laidAll_os _ _ _, World.shaped_of_ZipB (by kernel_rfl) (by kernel_rfl), (Input.okWide_of_okWideB (base := 0) (wok os)).1, (Input.okWide_of_okWideB (wok os)).2,
   (OpenSpec.preRow_of_cond 8 hx (by kernel_rfl) (fun k hk => by cases hk) (by kernel_rfl) (ade_ os _)), by simp only [Assume.holds]; exact ⟨by simp, by simp, fun _ => Modest.zero, by simp, by simp⟩⟩ ?_
 intro W base args ds gs before hval hW _ _ _ hL hS _
 exact vk_ H enc W base args ds gs before hval hW hL hS
theorem named : Tryz.pinned.checked.prog.funcNamed Rows.fnBookRow.func = some 10 := by kernel_rfl
theorem agc_ : (Rows.fnBookRow.inPlace == Program.inPlace Tryz.pinned.checked.prog 10) = true := by kernel_rfl
theorem aip_ : (Rows.fnBookRow.unfollowed == Program.unfollowed Tryz.pinned.checked.prog 10) = true := by kernel_rfl
theorem agb_ : (Rows.fnBookRow.recurses == Program.recurses Tryz.pinned.checked.prog 10) = true := by kernel_rfl
theorem aiy_ : (Rows.fnBookRow.named == Program.varsNamed Tryz.pinned.checked.prog 10) = true := by kernel_rfl
theorem closed : joinedFacts Tryz.pinned.checked.prog 10 Tryz.f10 (OpenSpec.ofChange Rows.fnBookSpec).bare Rows.fnBookRow = true := by
 unfold joinedFacts
 rw [agc_, aip_, agb_, aiy_]
 kernel_rfl
theorem inst : (Tryz.f10).isInstance Tryz.pinned.checked.prog Rows.fnBookRow.origin Rows.fnBookRow.targs := of_decide_eq_true (by kernel_rfl)
theorem wrapper : (Tryz.f10).isWrapper Tryz.pinned.checked.prog Rows.fnBookRow.wrapper Rows.fnBookRow.mainSum := by unfold Func.isWrapper; first | (rw [if_pos (by decide +kernel)]; kernel_rfl) | (rw [if_neg (by decide +kernel)]; exact ⟨rfl, rfl⟩)
theorem said : Rows.FnBookSaid :=
 OpenClaim.holds_of_cond 10 Tryz.f10 rfl rfl rfl rfl rfl rfl rfl ⟨rfl, rfl, rfl, rfl, rfl⟩ rfl rfl rfl rfl rfl named Tryz.func10 closed inst wrapper
  (fun os started H enc _ F => by rw [OpenClaim.pre_eq_preRow]; exact akw_ os started H enc F)
theorem plain (f : FuncId) (fn : Func) (hf : Tryz.pinned.checked.prog.funcNamed "loop.example/interlinear/laws.FnBook" = some f) (hfn : Tryz.pinned.checked.prog.funcs[f]? = some fn) :
  true = Tryz.pinned.checked.prog.looks [] ∧ ∀ (j : Nat) t, fn.params[j]? = some t → Tryz.pinned.checked.prog.wantsStandIn t = false := by
 obtain rfl : f = 10 := Option.some.inj (named.symm.trans hf) |>.symm
 obtain rfl : fn = Tryz.f10 := (Option.some.inj (Tryz.func10.symm.trans hfn)).symm
 refine ⟨by kernel_rfl, fun j t ht => ?_⟩
 rw [Tryz.params10] at ht
 have hm : t ∈ [22] := by simpa using Array.mem_of_getElem? ht
 have hall : ([22].all fun u => !Tryz.prog.wantsStandIn u) = true := by kernel_rfl
 exact (show Tryz.prog.wantsStandIn t = false by simpa using List.all_eq_true.1 hall t hm)
theorem am9_ : Rows.fnBookRow.wfByText (OpenSpec.ofChange Rows.fnBookSpec) = true := by kernel_rfl
theorem aln_ : Tryz.pinned.checked.prog.mainIs = some ((true, "2babf644e9e62fa95a3b99a5d45d00bd864fc961caa1d928099e128d55cf1c52").1, (true, "2babf644e9e62fa95a3b99a5d45d00bd864fc961caa1d928099e128d55cf1c52").2.toList) := by kernel_rfl
theorem amx_ : false = Rows.fnBookRow.goesBy Tryz.pinned.checked.prog := by kernel_rfl
theorem card : Rows.FnBookCardSaid :=
 Claim7.holds_tied_plain_at .later [] [.data, .data, .data, .data, .sentinel, .sentinel, .widerDeep, .pinned] true (true, "2babf644e9e62fa95a3b99a5d45d00bd864fc961caa1d928099e128d55cf1c52") true said (fun _ h => by cases h) am9_ (fun _ h => by cases h) fnBook_row_tie rfl ⟨rfl, rfl⟩ aln_ rfl plain amx_
end Go.Proofs.YtpikbndepapbhaaGreatDoor.lawBook
