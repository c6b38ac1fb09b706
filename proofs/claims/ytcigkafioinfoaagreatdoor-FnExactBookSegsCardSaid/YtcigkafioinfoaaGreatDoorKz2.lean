/- Arguments of a law as trees: lists of pages. Conditions: none. -/
import Derived.Test.YtcigkafioinfoaaGreatDoorKm
import Derived.Test.YtcigkafioinfoaaGreatDoorK17
set_option linter.unusedVariables false
set_option linter.unusedSimpArgs false
namespace Go.Proofs.YtcigkafioinfoaaGreatDoor
section
open Go.ChangeShapes Go.WideShapes Go.ChangeAt Go.RowKit
set_option maxRecDepth 100000
section
variable {H : Type} {enc : TypeId × Value → H} {W : World}
theorem y8_ : Tryz.prog.cellsOf 150 = 4 := by kernel_rfl
theorem ais_ : Tryz.prog.cellsOf 4 = 1 := by kernel_rfl
theorem ab2_ : Tryz.prog.cellsOf 27 = 1 := by kernel_rfl
theorem afn_ (s : Pg) : (pgC s).all V.one = true := by rw [ai_]; rfl
theorem aes_ : ∀ fuel, Opn enc Tryz.prog W fuel 27 fun vs => ∃ l : List Int, vs = [.sl false (inR l)] ∧ l.length ≤ maxLen := by
 intro fuel cs x h
 obtain ⟨vs, ⟨l, rfl, h1, _⟩, h2, h3⟩ := rt_ (fun n : Int => [V.i .i64 n]) (fun _ => True) Tryz.underlying27 ado_ (by decide) (fun n _ cs x h => by
  obtain ⟨vs, ⟨n, rfl, _⟩, k⟩ := aie_ Tryz.underlying3 cs x h
  exact ⟨_, ⟨n, rfl, trivial⟩, k⟩) cs x h
 exact ⟨_, ⟨l, rfl, h1⟩, h2, h3⟩
theorem ac4_ : ∀ fuel, Opn enc Tryz.prog W fuel 150 fun vs => ∃ s, vs = pgC s ∧ bdP s = true := by
 intro fuel cs x h
 obtain ⟨hl, _, ⟨k, rfl, hk⟩, u0, o0⟩ := jt_ Tryz.underlying150 h (i := 0) rfl rfl uy_ fun n _ => y3_ Tryz.underlying9
 obtain ⟨_, _, ⟨g, rfl⟩, u1, o1⟩ := jt_ Tryz.underlying150 h (i := 1) rfl rfl ais_ fun n _ => adx_ Tryz.underlying4
 obtain ⟨_, _, ⟨t, rfl, ht⟩, u2, o2⟩ := jt_ Tryz.underlying150 h (i := 2) rfl rfl uy_ fun n _ => y3_ Tryz.underlying9
 obtain ⟨_, _, ⟨f, rfl, hf⟩, u3, o3⟩ := jt_ Tryz.underlying150 h (i := 3) rfl rfl ab2_ fun n _ => aes_ n
 rw [y8_] at hl
 have hm : maxLen = 9223372036854775807 := by decide
 refine ⟨_, ⟨⟨k, g, t, f⟩, rfl, by simp only [bdP, T5_, T3_]; omega⟩, ?_, afn_ _⟩
 have := m8_ u0 rfl (m8_ u1 rfl (m8_ u2 rfl (ad0_ u3 hl)))
 simpa [pgC] using this
theorem rx_ {r : Reach} {base : Nat} {v0 : Value} {d0 : DataW H} {p : List MemPlace} (hv : Value.okWide Tryz.prog W r base 74 v0) (h0 : DataW.Trod enc Tryz.prog W 0 (fun _ => true) true 74 v0 d0 p) :
  ∃ l : List Pg, ((∀ s ∈ l, bdP s = true) ∧ l.length ≤ 9223372036854775807) ∧ VR (fun _ => none) (fun _ => True) W (.sl false (pgR l)) v0 := by
 obtain ⟨a0, len, cap, rfl⟩ := okWide_slice Tryz.underlying74 hv
 obtain ⟨fuel, h⟩ := h0
 obtain ⟨_, ⟨l, rfl, hlen, hg⟩, hr, _⟩ := rt_ pgC (fun s => bdP s = true) Tryz.underlying74 y8_ (by decide) (fun n _ => ac4_ n) _ _ h
 have hm : maxLen = 9223372036854775807 := by decide
 refine ⟨l, ⟨hg, by omega⟩, ?_⟩
 simp only [VRs] at hr
 obtain ⟨x, q, e1, hx, rfl⟩ := hr
 simp [Value.cells] at e1
 rw [e1]; exact hx
end
end
end Go.Proofs.YtcigkafioinfoaaGreatDoor
