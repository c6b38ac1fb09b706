/- Arguments of a law as trees: lists of pages. Conditions: none. -/
import Derived.Test.YtefmbmafdgedmaaGreatDoorKl
import Derived.Test.YtefmbmafdgedmaaGreatDoorK17
set_option linter.unusedVariables false
set_option linter.unusedSimpArgs false
namespace Go.Proofs.YtefmbmafdgedmaaGreatDoor
section
open Go.ChangeShapes Go.WideShapes Go.ChangeAt Go.RowKit
set_option maxRecDepth 100000
section
variable {H : Type} {enc : TypeId × Value → H} {W : World}
theorem zw_ : Tryz.prog.cellsOf 105 = 4 := by kernel_rfl
theorem ah3_ : Tryz.prog.cellsOf 4 = 1 := by kernel_rfl
theorem ad2_ : Tryz.prog.cellsOf 73 = 1 := by kernel_rfl
theorem adu_ (s : Pg) : (pgC s).all V.one = true := by rw [aj_]; rfl
theorem ahi_ : ∀ fuel, Opn enc Tryz.prog W fuel 73 fun vs => ∃ l : List Int, vs = [.sl false (inR l)] ∧ l.length ≤ maxLen := by
 intro fuel cs x h
 obtain ⟨vs, ⟨l, rfl, h1, _⟩, h2, h3⟩ := r5_ (fun n : Int => [V.i .i64 n]) (fun _ => True) Tryz.underlying73 afv_ (by decide) (fun n _ cs x h => by
  obtain ⟨vs, ⟨n, rfl, _⟩, k⟩ := aaa_ Tryz.underlying3 cs x h
  exact ⟨_, ⟨n, rfl, trivial⟩, k⟩) cs x h
 exact ⟨_, ⟨l, rfl, h1⟩, h2, h3⟩
theorem ahb_ : ∀ fuel, Opn enc Tryz.prog W fuel 105 fun vs => ∃ s, vs = pgC s ∧ bdP s = true := by
 intro fuel cs x h
 obtain ⟨hl, _, ⟨k, rfl, hk⟩, u0, o0⟩ := km_ Tryz.underlying105 h (i := 0) rfl rfl xy_ fun n _ => t8_ Tryz.underlying9
 obtain ⟨_, _, ⟨g, rfl⟩, u1, o1⟩ := km_ Tryz.underlying105 h (i := 1) rfl rfl ah3_ fun n _ => ac2_ Tryz.underlying4
 obtain ⟨_, _, ⟨t, rfl, ht⟩, u2, o2⟩ := km_ Tryz.underlying105 h (i := 2) rfl rfl xy_ fun n _ => t8_ Tryz.underlying9
 obtain ⟨_, _, ⟨f, rfl, hf⟩, u3, o3⟩ := km_ Tryz.underlying105 h (i := 3) rfl rfl ad2_ fun n _ => ahi_ n
 rw [zw_] at hl
 have hm : maxLen = 9223372036854775807 := by decide
 refine ⟨_, ⟨⟨k, g, t, f⟩, rfl, by simp only [bdP, T5_, T3_]; omega⟩, ?_, adu_ _⟩
 have := na_ u0 rfl (na_ u1 rfl (na_ u2 rfl (adq_ u3 hl)))
 simpa [pgC] using this
theorem np_ {r : Reach} {base : Nat} {v0 : Value} {d0 : DataW H} {p : List MemPlace} (hv : Value.okWide Tryz.prog W r base 60 v0) (h0 : DataW.Trod enc Tryz.prog W 0 (fun _ => true) true 60 v0 d0 p) :
  ∃ l : List Pg, ((∀ s ∈ l, bdP s = true) ∧ l.length ≤ 9223372036854775807) ∧ VR (fun _ => none) (fun _ => True) W (.sl false (pgR l)) v0 := by
 obtain ⟨a0, len, cap, rfl⟩ := okWide_slice Tryz.underlying60 hv
 obtain ⟨fuel, h⟩ := h0
 obtain ⟨_, ⟨l, rfl, hlen, hg⟩, hr, _⟩ := r5_ pgC (fun s => bdP s = true) Tryz.underlying60 zw_ (by decide) (fun n _ => ahb_ n) _ _ h
 have hm : maxLen = 9223372036854775807 := by decide
 refine ⟨l, ⟨hg, by omega⟩, ?_⟩
 simp only [VRs] at hr
 obtain ⟨x, q, e1, hx, rfl⟩ := hr
 simp [Value.cells] at e1
 rw [e1]; exact hx
end
end
end Go.Proofs.YtefmbmafdgedmaaGreatDoor
