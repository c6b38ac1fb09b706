/- Arguments of a law as trees: lists of lines without types. Conditions: none. -/
import Derived.Test.YtcigkafioinfoaaGreatDoorKm
import Derived.Test.YtcigkafioinfoaaGreatDoorK18b
set_option linter.unusedVariables false
set_option linter.unusedSimpArgs false
namespace Go.Proofs.YtcigkafioinfoaaGreatDoor
section
open Go.ChangeShapes Go.WideShapes Go.ChangeAt Go.RowKit
set_option maxRecDepth 100000
section
variable {H : Type} {enc : TypeId × Value → H} {W : World}
theorem rw_ : Tryz.prog.cellsOf 137 = 10 := by kernel_rfl
theorem z4_ (s : Bl) : (bC s).all V.one = true := by rw [ai_]; rfl
theorem zp_ : ∀ fuel, Opn enc Tryz.prog W fuel 137 fun vs => ∃ s, vs = bC s ∧ bdB s = true := by
 intro fuel cs x h
 obtain ⟨hl, _, ⟨k, rfl, _⟩, u0, o0⟩ := c2_ Tryz.underlying137 h (i := 0) rfl rfl ja_ fun n _ => lm_ Tryz.underlying3
 obtain ⟨_, _, ⟨s, rfl, hs⟩, u1, o1⟩ := c2_ Tryz.underlying137 h (i := 1) rfl rfl in_ fun n _ => lj_ Tryz.underlying9
 obtain ⟨_, _, ⟨e1, rfl, b1⟩, u2, o2⟩ := c2_ Tryz.underlying137 h (i := 2) rfl rfl hu_ fun n _ => ji_ n
 obtain ⟨_, _, ⟨e2, rfl, b2⟩, u3, o3⟩ := c2_ Tryz.underlying137 h (i := 3) rfl rfl hu_ fun n _ => ji_ n
 rw [rw_] at hl
 have hm : maxLen = 9223372036854775807 := by decide
 refine ⟨_, ⟨⟨k, s, e1, e2⟩, rfl, by simp only [bdB, b1, b2, Bool.and_true, T3_]; omega⟩, ?_, z4_ _⟩
 have := di_ u0 rfl (di_ u1 rfl (di_ u2 rfl (mh_ u3 hl)))
 simpa [bC] using this
theorem vg_ {r : Reach} {base : Nat} {v0 : Value} {d0 : DataW H} {p : List MemPlace} (hv : Value.okWide Tryz.prog W r base 56 v0) (h0 : DataW.Trod enc Tryz.prog W 0 (fun _ => true) true 56 v0 d0 p) :
  ∃ l : List Bl, ((∀ s ∈ l, bdB s = true) ∧ l.length ≤ 9223372036854775807) ∧ VR (fun _ => none) (fun _ => True) W (.sl false (bLR l)) v0 := by
 obtain ⟨a0, len, cap, rfl⟩ := okWide_slice Tryz.underlying56 hv
 obtain ⟨fuel, h⟩ := h0
 obtain ⟨_, ⟨l, rfl, hlen, hg⟩, hr, _⟩ := nn_ bC (fun s => bdB s = true) Tryz.underlying56 rw_ (by decide) (fun n _ => zp_ n) _ _ h
 have hm : maxLen = 9223372036854775807 := by decide
 refine ⟨l, ⟨hg, by omega⟩, ?_⟩
 simp only [VRs] at hr
 obtain ⟨x, q, e1, hx, rfl⟩ := hr
 simp [Value.cells] at e1
 rw [e1]; exact hx
end
end
end Go.Proofs.YtcigkafioinfoaaGreatDoor
