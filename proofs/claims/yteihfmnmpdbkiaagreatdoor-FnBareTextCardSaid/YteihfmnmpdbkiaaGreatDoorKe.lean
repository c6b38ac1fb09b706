/- Parts of the proof, one after another: The program as an environment of the tree logic: what its package variables hold. | The types of the program, as the tree logic knows them. | Expressions as cells. | The rules by which regions are reckoned. Conditions: none. -/
import Derived.Test.YteihfmnmpdbkiaaGreatDoorKb
import Derived.Test.YteihfmnmpdbkiaaGreatDoorProg
import Derived.Test.YteihfmnmpdbkiaaGreatDoorKc
import Derived.Lib.LaidTab
set_option linter.unusedVariables false
set_option linter.unusedSimpArgs false
namespace Go.Proofs.YteihfmnmpdbkiaaGreatDoor
section
open Go.RowKit

def ownW : List Str := [[108, 101, 116], [115, 97, 121], [119, 104, 101, 110], [97, 115], [112, 114, 105, 110, 116], [105, 102], [105, 110, 116], [98, 111, 111, 108]]
def strR (l : List Str) : List (List V) := l.map fun s => [.s s]
theorem strR_len (l : List Str) : (strR l).length = l.length := by simp [strR]
theorem strR_get {l : List Str} {k : Nat} (h : k < l.length) : (strR l).getD k [] = [.s (l.getD k [])] := by
  simp [strR, List.getD_eq_getElem?_getD, List.getElem?_eq_getElem h]
theorem strR_pure : ∀ l : List Str, purer (strR l) = true
  | [] => rfl
  | s :: l => by simp only [strR, List.map_cons, purer, pures, V.pure, Bool.true_and]; exact strR_pure l
structure Gl (B : Nat) (w : World) : Prop where
  tab : Lib.TabIs Tryz.prog w "internal/strconv.uint64pow10" .u64 Lib.pow10Tab
  syn : ∃ tp p, w.var? Tryz.prog "strconv.ErrSyntax" = some #[.iface tp p]
  rng : ∃ tp p, w.var? Tryz.prog "strconv.ErrRange" = some #[.iface tp p]
  maxl : ∃ m : Int, w.cell? ⟨1, 0, none⟩ = some (.int .i64 m)
  many : 6 < B ∧ 4 < B ∧ 5 < B ∧ 1 < B
theorem var?_same {P : Program} {B g : Nat} {W W' : World} {n : String} {cs : Array Value} (h : ∀ g, g < B → W'.heap[g]? = W.heap[g]?) (hg : P.globalNamed n = some g) (hgB : g < B) (hv : W.var? P n = some cs) : W'.var? P n = some cs := by
  unfold World.var? at hv ⊢
  simp only [hg, Option.bind_some] at hv ⊢
  rw [h g hgB]
  exact hv
theorem gTab : Tryz.prog.globalNamed "internal/strconv.uint64pow10" = some 6 := by kernel_rfl
theorem gSyn : Tryz.prog.globalNamed "strconv.ErrSyntax" = some 4 := by kernel_rfl
theorem gRng : Tryz.prog.globalNamed "strconv.ErrRange" = some 5 := by kernel_rfl
theorem Gl.same {B : Nat} {w w' : World} (h : Gl B w) (hb : ∀ g, g < B → w'.heap[g]? = w.heap[g]?) : Gl B w' := by
  obtain ⟨m1, m2, m3, m4⟩ := h.many
  obtain ⟨m, hm⟩ := h.maxl
  obtain ⟨t1, p1, s1⟩ := h.syn
  obtain ⟨t2, p2, s2⟩ := h.rng
  exact ⟨var?_same hb gTab m1 h.tab, ⟨t1, p1, var?_same hb gSyn m2 s1⟩, ⟨t2, p2, var?_same hb gRng m3 s2⟩, ⟨m, by unfold World.cell? at hm ⊢; rw [hb _ m4]; exact hm⟩, h.many⟩
noncomputable def En : Env := ⟨Tryz.prog, fun g => if g = 0 then some [.sl false (strR ownW)] else none, Gl, fun _ _ _ h hb => h.same hb⟩
theorem En_own : En.G 0 = some [.sl false (strR ownW)] := rfl
theorem enM : En.P.follows .mixedOrders = true := by kernel_rfl
end

section
theorem ty2 : tyOf En.P 2 = some ⟨TK.int IntKind.i64, 1, V.i IntKind.i64 (0)⟩ := by kernel_rfl
theorem zo2 : zeroOf En.P 2 = V.i IntKind.i64 (0) := by kernel_rfl
theorem ty3 : tyOf En.P 3 = some ⟨TK.int IntKind.i64, 1, V.i IntKind.i64 (0)⟩ := by kernel_rfl
theorem zo3 : zeroOf En.P 3 = V.i IntKind.i64 (0) := by kernel_rfl
theorem ty4 : tyOf En.P 4 = some ⟨TK.bool, 1, V.b false⟩ := by kernel_rfl
theorem zo4 : zeroOf En.P 4 = V.b false := by kernel_rfl
theorem ty5 : tyOf En.P 5 = some ⟨TK.int IntKind.u8, 1, V.i IntKind.u8 (0)⟩ := by kernel_rfl
theorem zo5 : zeroOf En.P 5 = V.i IntKind.u8 (0) := by kernel_rfl
theorem ty6 : tyOf En.P 6 = some ⟨TK.int IntKind.u8, 1, V.i IntKind.u8 (0)⟩ := by kernel_rfl
theorem zo6 : zeroOf En.P 6 = V.i IntKind.u8 (0) := by kernel_rfl
theorem ty7 : tyOf En.P 7 = some ⟨TK.st [(0, 1, false), (1, 1, false), (2, 1, false), (3, 1, false)], 4, V.ag [V.i IntKind.i64 (0), V.i IntKind.i64 (0), V.b false, V.i IntKind.u8 (0)]⟩ := by kernel_rfl
theorem zo7 : zeroOf En.P 7 = V.ag [V.i IntKind.i64 (0), V.i IntKind.i64 (0), V.b false, V.i IntKind.u8 (0)] := by kernel_rfl
theorem ty8 : tyOf En.P 8 = some ⟨TK.st [(0, 1, false), (1, 1, false), (2, 1, false), (3, 1, false)], 4, V.ag [V.i IntKind.i64 (0), V.i IntKind.i64 (0), V.b false, V.i IntKind.u8 (0)]⟩ := by kernel_rfl
theorem zo8 : zeroOf En.P 8 = V.ag [V.i IntKind.i64 (0), V.i IntKind.i64 (0), V.b false, V.i IntKind.u8 (0)] := by kernel_rfl
theorem ty9 : tyOf En.P 9 = some ⟨TK.str, 1, V.s []⟩ := by kernel_rfl
theorem zo9 : zeroOf En.P 9 = V.s [] := by kernel_rfl
theorem ty10 : tyOf En.P 10 = some ⟨TK.str, 1, V.s []⟩ := by kernel_rfl
theorem zo10 : zeroOf En.P 10 = V.s [] := by kernel_rfl
theorem ty11 : tyOf En.P 11 = some ⟨TK.str, 1, V.s []⟩ := by kernel_rfl
theorem zo11 : zeroOf En.P 11 = V.s [] := by kernel_rfl
theorem ty12 : tyOf En.P 12 = some ⟨TK.int IntKind.u64, 1, V.i IntKind.u64 (0)⟩ := by kernel_rfl
theorem zo12 : zeroOf En.P 12 = V.i IntKind.u64 (0) := by kernel_rfl
theorem ty13 : tyOf En.P 13 = some ⟨TK.st [(0, 1, false), (1, 1, false)], 2, V.ag [V.s [], V.i IntKind.u64 (0)]⟩ := by kernel_rfl
theorem zo13 : zeroOf En.P 13 = V.ag [V.s [], V.i IntKind.u64 (0)] := by kernel_rfl
theorem ty14 : tyOf En.P 14 = some ⟨TK.st [(0, 1, false), (1, 1, false)], 2, V.ag [V.s [], V.i IntKind.u64 (0)]⟩ := by kernel_rfl
theorem zo14 : zeroOf En.P 14 = V.ag [V.s [], V.i IntKind.u64 (0)] := by kernel_rfl
theorem ty15 : tyOf En.P 15 = some ⟨TK.other, 1, V.np⟩ := by kernel_rfl
theorem zo15 : zeroOf En.P 15 = V.np := by kernel_rfl
theorem ty16 : tyOf En.P 16 = some ⟨TK.other, 1, V.np⟩ := by kernel_rfl
theorem zo16 : zeroOf En.P 16 = V.np := by kernel_rfl
theorem ty17 : tyOf En.P 17 = some ⟨TK.other, 1, V.np⟩ := by kernel_rfl
theorem zo17 : zeroOf En.P 17 = V.np := by kernel_rfl
theorem ty18 : tyOf En.P 18 = some ⟨TK.st [(0, 1, false)], 1, V.ag [V.np]⟩ := by kernel_rfl
theorem zo18 : zeroOf En.P 18 = V.ag [V.np] := by kernel_rfl
theorem ty19 : tyOf En.P 19 = some ⟨TK.st [(0, 1, false)], 1, V.ag [V.np]⟩ := by kernel_rfl
theorem zo19 : zeroOf En.P 19 = V.ag [V.np] := by kernel_rfl
theorem ty21 : tyOf En.P 21 = some ⟨TK.int IntKind.i32, 1, V.i IntKind.i32 (0)⟩ := by kernel_rfl
theorem zo21 : zeroOf En.P 21 = V.i IntKind.i32 (0) := by kernel_rfl
theorem ty22 : tyOf En.P 22 = some ⟨TK.sl 5 1 1 [V.i IntKind.u8 (0)], 1, V.sl true []⟩ := by kernel_rfl
theorem zo22 : zeroOf En.P 22 = V.sl true [] := by kernel_rfl
theorem ty23 : tyOf En.P 23 = some ⟨TK.sl 32 11 152 [V.i IntKind.i64 (0), V.s [], V.s [], V.i IntKind.i64 (0), V.i IntKind.i64 (0), V.s [], V.sl true [], V.i IntKind.i64 (0), V.i IntKind.i64 (0), V.s [], V.sl true []], 1, V.sl true []⟩ := by kernel_rfl
theorem zo23 : zeroOf En.P 23 = V.sl true [] := by kernel_rfl
theorem ty25 : tyOf En.P 25 = some ⟨TK.sl 3 1 8 [V.i IntKind.i64 (0)], 1, V.sl true []⟩ := by kernel_rfl
theorem zo25 : zeroOf En.P 25 = V.sl true [] := by kernel_rfl
theorem ty28 : tyOf En.P 28 = some ⟨TK.sl 30 4 56 [V.i IntKind.i64 (0), V.i IntKind.i64 (0), V.s [], V.sl true []], 1, V.sl true []⟩ := by kernel_rfl
theorem zo28 : zeroOf En.P 28 = V.sl true [] := by kernel_rfl
theorem ty29 : tyOf En.P 29 = some ⟨TK.st [(0, 1, false), (1, 1, false), (2, 1, false), (3, 1, false)], 4, V.ag [V.i IntKind.i64 (0), V.i IntKind.i64 (0), V.s [], V.sl true []]⟩ := by kernel_rfl
theorem zo29 : zeroOf En.P 29 = V.ag [V.i IntKind.i64 (0), V.i IntKind.i64 (0), V.s [], V.sl true []] := by kernel_rfl
theorem ty30 : tyOf En.P 30 = some ⟨TK.st [(0, 1, false), (1, 1, false), (2, 1, false), (3, 1, false)], 4, V.ag [V.i IntKind.i64 (0), V.i IntKind.i64 (0), V.s [], V.sl true []]⟩ := by kernel_rfl
theorem zo30 : zeroOf En.P 30 = V.ag [V.i IntKind.i64 (0), V.i IntKind.i64 (0), V.s [], V.sl true []] := by kernel_rfl
theorem ty31 : tyOf En.P 31 = some ⟨TK.st [(0, 1, false), (1, 1, false), (2, 1, false), (3, 4, true), (7, 4, true)], 11, V.ag [V.i IntKind.i64 (0), V.s [], V.s [], V.i IntKind.i64 (0), V.i IntKind.i64 (0), V.s [], V.sl true [], V.i IntKind.i64 (0), V.i IntKind.i64 (0), V.s [], V.sl true []]⟩ := by kernel_rfl
theorem zo31 : zeroOf En.P 31 = V.ag [V.i IntKind.i64 (0), V.s [], V.s [], V.i IntKind.i64 (0), V.i IntKind.i64 (0), V.s [], V.sl true [], V.i IntKind.i64 (0), V.i IntKind.i64 (0), V.s [], V.sl true []] := by kernel_rfl
theorem ty32 : tyOf En.P 32 = some ⟨TK.st [(0, 1, false), (1, 1, false), (2, 1, false), (3, 4, true), (7, 4, true)], 11, V.ag [V.i IntKind.i64 (0), V.s [], V.s [], V.i IntKind.i64 (0), V.i IntKind.i64 (0), V.s [], V.sl true [], V.i IntKind.i64 (0), V.i IntKind.i64 (0), V.s [], V.sl true []]⟩ := by kernel_rfl
theorem zo32 : zeroOf En.P 32 = V.ag [V.i IntKind.i64 (0), V.s [], V.s [], V.i IntKind.i64 (0), V.i IntKind.i64 (0), V.s [], V.sl true [], V.i IntKind.i64 (0), V.i IntKind.i64 (0), V.s [], V.sl true []] := by kernel_rfl
theorem ty35 : tyOf En.P 35 = some ⟨TK.sl 47 4 32 [V.i IntKind.i64 (0), V.i IntKind.i64 (0), V.i IntKind.i64 (0), V.i IntKind.i64 (0)], 1, V.sl true []⟩ := by kernel_rfl
theorem zo35 : zeroOf En.P 35 = V.sl true [] := by kernel_rfl
theorem ty37 : tyOf En.P 37 = some ⟨TK.sl 9 1 16 [V.s []], 1, V.sl true []⟩ := by kernel_rfl
theorem zo37 : zeroOf En.P 37 = V.sl true [] := by kernel_rfl
theorem ty44 : tyOf En.P 44 = some ⟨TK.st [(0, 1, false), (1, 1, false)], 2, V.ag [V.i IntKind.i64 (0), V.i IntKind.i64 (0)]⟩ := by kernel_rfl
theorem zo44 : zeroOf En.P 44 = V.ag [V.i IntKind.i64 (0), V.i IntKind.i64 (0)] := by kernel_rfl
theorem ty45 : tyOf En.P 45 = some ⟨TK.st [(0, 1, false), (1, 1, false)], 2, V.ag [V.i IntKind.i64 (0), V.i IntKind.i64 (0)]⟩ := by kernel_rfl
theorem zo45 : zeroOf En.P 45 = V.ag [V.i IntKind.i64 (0), V.i IntKind.i64 (0)] := by kernel_rfl
theorem ty46 : tyOf En.P 46 = some ⟨TK.st [(0, 2, true), (2, 2, true)], 4, V.ag [V.i IntKind.i64 (0), V.i IntKind.i64 (0), V.i IntKind.i64 (0), V.i IntKind.i64 (0)]⟩ := by kernel_rfl
theorem zo46 : zeroOf En.P 46 = V.ag [V.i IntKind.i64 (0), V.i IntKind.i64 (0), V.i IntKind.i64 (0), V.i IntKind.i64 (0)] := by kernel_rfl
theorem ty47 : tyOf En.P 47 = some ⟨TK.st [(0, 2, true), (2, 2, true)], 4, V.ag [V.i IntKind.i64 (0), V.i IntKind.i64 (0), V.i IntKind.i64 (0), V.i IntKind.i64 (0)]⟩ := by kernel_rfl
theorem zo47 : zeroOf En.P 47 = V.ag [V.i IntKind.i64 (0), V.i IntKind.i64 (0), V.i IntKind.i64 (0), V.i IntKind.i64 (0)] := by kernel_rfl
theorem ty52 : tyOf En.P 52 = some ⟨TK.sl 56 3 32 [V.i IntKind.i64 (0), V.s [], V.i IntKind.i64 (0)], 1, V.sl true []⟩ := by kernel_rfl
theorem zo52 : zeroOf En.P 52 = V.sl true [] := by kernel_rfl
theorem ty55 : tyOf En.P 55 = some ⟨TK.st [(0, 1, false), (1, 1, false), (2, 1, false)], 3, V.ag [V.i IntKind.i64 (0), V.s [], V.i IntKind.i64 (0)]⟩ := by kernel_rfl
theorem zo55 : zeroOf En.P 55 = V.ag [V.i IntKind.i64 (0), V.s [], V.i IntKind.i64 (0)] := by kernel_rfl
theorem ty56 : tyOf En.P 56 = some ⟨TK.st [(0, 1, false), (1, 1, false), (2, 1, false)], 3, V.ag [V.i IntKind.i64 (0), V.s [], V.i IntKind.i64 (0)]⟩ := by kernel_rfl
theorem zo56 : zeroOf En.P 56 = V.ag [V.i IntKind.i64 (0), V.s [], V.i IntKind.i64 (0)] := by kernel_rfl
theorem ty59 : tyOf En.P 59 = some ⟨TK.sl 45 2 16 [V.i IntKind.i64 (0), V.i IntKind.i64 (0)], 1, V.sl true []⟩ := by kernel_rfl
theorem zo59 : zeroOf En.P 59 = V.sl true [] := by kernel_rfl
theorem ty62 : tyOf En.P 62 = some ⟨TK.sl 64 10 136 [V.i IntKind.i64 (0), V.s [], V.i IntKind.i64 (0), V.i IntKind.i64 (0), V.s [], V.sl true [], V.i IntKind.i64 (0), V.i IntKind.i64 (0), V.s [], V.sl true []], 1, V.sl true []⟩ := by kernel_rfl
theorem zo62 : zeroOf En.P 62 = V.sl true [] := by kernel_rfl
theorem ty63 : tyOf En.P 63 = some ⟨TK.st [(0, 1, false), (1, 1, false), (2, 4, true), (6, 4, true)], 10, V.ag [V.i IntKind.i64 (0), V.s [], V.i IntKind.i64 (0), V.i IntKind.i64 (0), V.s [], V.sl true [], V.i IntKind.i64 (0), V.i IntKind.i64 (0), V.s [], V.sl true []]⟩ := by kernel_rfl
theorem zo63 : zeroOf En.P 63 = V.ag [V.i IntKind.i64 (0), V.s [], V.i IntKind.i64 (0), V.i IntKind.i64 (0), V.s [], V.sl true [], V.i IntKind.i64 (0), V.i IntKind.i64 (0), V.s [], V.sl true []] := by kernel_rfl
theorem ty64 : tyOf En.P 64 = some ⟨TK.st [(0, 1, false), (1, 1, false), (2, 4, true), (6, 4, true)], 10, V.ag [V.i IntKind.i64 (0), V.s [], V.i IntKind.i64 (0), V.i IntKind.i64 (0), V.s [], V.sl true [], V.i IntKind.i64 (0), V.i IntKind.i64 (0), V.s [], V.sl true []]⟩ := by kernel_rfl
theorem zo64 : zeroOf En.P 64 = V.ag [V.i IntKind.i64 (0), V.s [], V.i IntKind.i64 (0), V.i IntKind.i64 (0), V.s [], V.sl true [], V.i IntKind.i64 (0), V.i IntKind.i64 (0), V.s [], V.sl true []] := by kernel_rfl
theorem ty80 : tyOf En.P 80 = some ⟨TK.st [(0, 1, false), (1, 1, false), (2, 1, false), (3, 1, false)], 4, V.ag [V.s [], V.b false, V.s [], V.sl true []]⟩ := by kernel_rfl
theorem zo80 : zeroOf En.P 80 = V.ag [V.s [], V.b false, V.s [], V.sl true []] := by kernel_rfl
theorem ty81 : tyOf En.P 81 = some ⟨TK.st [(0, 1, false), (1, 1, false), (2, 1, false), (3, 1, false)], 4, V.ag [V.s [], V.b false, V.s [], V.sl true []]⟩ := by kernel_rfl
theorem zo81 : zeroOf En.P 81 = V.ag [V.s [], V.b false, V.s [], V.sl true []] := by kernel_rfl
theorem ty86 : tyOf En.P 86 = some ⟨TK.sl 81 4 64 [V.s [], V.b false, V.s [], V.sl true []], 1, V.sl true []⟩ := by kernel_rfl
theorem zo86 : zeroOf En.P 86 = V.sl true [] := by kernel_rfl
theorem ty96 : tyOf En.P 96 = some ⟨TK.other, 1, V.np⟩ := by kernel_rfl
theorem zo96 : zeroOf En.P 96 = V.np := by kernel_rfl
theorem ty135 : tyOf En.P 135 = some ⟨TK.sl 139 2 24 [V.s [], V.i IntKind.i64 (0)], 1, V.sl true []⟩ := by kernel_rfl
theorem zo135 : zeroOf En.P 135 = V.sl true [] := by kernel_rfl
theorem ty138 : tyOf En.P 138 = some ⟨TK.st [(0, 1, false), (1, 1, false)], 2, V.ag [V.s [], V.i IntKind.i64 (0)]⟩ := by kernel_rfl
theorem zo138 : zeroOf En.P 138 = V.ag [V.s [], V.i IntKind.i64 (0)] := by kernel_rfl
theorem ty139 : tyOf En.P 139 = some ⟨TK.st [(0, 1, false), (1, 1, false)], 2, V.ag [V.s [], V.i IntKind.i64 (0)]⟩ := by kernel_rfl
theorem zo139 : zeroOf En.P 139 = V.ag [V.s [], V.i IntKind.i64 (0)] := by kernel_rfl
theorem ty140 : tyOf En.P 140 = some ⟨TK.sl 144 2 24 [V.s [], V.i IntKind.i64 (0)], 1, V.sl true []⟩ := by kernel_rfl
theorem zo140 : zeroOf En.P 140 = V.sl true [] := by kernel_rfl
theorem ty143 : tyOf En.P 143 = some ⟨TK.st [(0, 1, false), (1, 1, false)], 2, V.ag [V.s [], V.i IntKind.i64 (0)]⟩ := by kernel_rfl
theorem zo143 : zeroOf En.P 143 = V.ag [V.s [], V.i IntKind.i64 (0)] := by kernel_rfl
theorem ty144 : tyOf En.P 144 = some ⟨TK.st [(0, 1, false), (1, 1, false)], 2, V.ag [V.s [], V.i IntKind.i64 (0)]⟩ := by kernel_rfl
theorem zo144 : zeroOf En.P 144 = V.ag [V.s [], V.i IntKind.i64 (0)] := by kernel_rfl
theorem ty146 : tyOf En.P 146 = some ⟨TK.st [(0, 1, false), (1, 1, false)], 2, V.ag [V.sl true [], V.i IntKind.i64 (0)]⟩ := by kernel_rfl
theorem zo146 : zeroOf En.P 146 = V.ag [V.sl true [], V.i IntKind.i64 (0)] := by kernel_rfl
theorem ty147 : tyOf En.P 147 = some ⟨TK.st [(0, 1, false), (1, 1, false)], 2, V.ag [V.sl true [], V.i IntKind.i64 (0)]⟩ := by kernel_rfl
theorem zo147 : zeroOf En.P 147 = V.ag [V.sl true [], V.i IntKind.i64 (0)] := by kernel_rfl
theorem ty163 : tyOf En.P 163 = some ⟨TK.other, 1, V.np⟩ := by kernel_rfl
theorem zo163 : zeroOf En.P 163 = V.np := by kernel_rfl
theorem ty164 : tyOf En.P 164 = some ⟨TK.st [(0, 1, false), (1, 1, false)], 2, V.ag [V.np, V.sl true []]⟩ := by kernel_rfl
theorem zo164 : zeroOf En.P 164 = V.ag [V.np, V.sl true []] := by kernel_rfl
theorem ty165 : tyOf En.P 165 = some ⟨TK.st [(0, 1, false), (1, 1, false)], 2, V.ag [V.np, V.sl true []]⟩ := by kernel_rfl
theorem zo165 : zeroOf En.P 165 = V.ag [V.np, V.sl true []] := by kernel_rfl
theorem ty181 : tyOf En.P 181 = some ⟨TK.other, 1, V.np⟩ := by kernel_rfl
theorem zo181 : zeroOf En.P 181 = V.np := by kernel_rfl
theorem ty198 : tyOf En.P 198 = some ⟨TK.other, 1, V.np⟩ := by kernel_rfl
theorem zo198 : zeroOf En.P 198 = V.np := by kernel_rfl
theorem ty199 : tyOf En.P 199 = some ⟨TK.other, 1, V.np⟩ := by kernel_rfl
theorem zo199 : zeroOf En.P 199 = V.np := by kernel_rfl
theorem ty200 : tyOf En.P 200 = some ⟨TK.st [(0, 1, false), (1, 1, false), (2, 1, false)], 3, V.ag [V.sl true [], V.b false, V.i IntKind.i64 (0)]⟩ := by kernel_rfl
theorem zo200 : zeroOf En.P 200 = V.ag [V.sl true [], V.b false, V.i IntKind.i64 (0)] := by kernel_rfl
theorem ty201 : tyOf En.P 201 = some ⟨TK.st [(0, 1, false), (1, 1, false), (2, 1, false)], 3, V.ag [V.sl true [], V.b false, V.i IntKind.i64 (0)]⟩ := by kernel_rfl
theorem zo201 : zeroOf En.P 201 = V.ag [V.sl true [], V.b false, V.i IntKind.i64 (0)] := by kernel_rfl
theorem ty213 : tyOf En.P 213 = some ⟨TK.other, 1, V.np⟩ := by kernel_rfl
theorem zo213 : zeroOf En.P 213 = V.np := by kernel_rfl
theorem ty218 : tyOf En.P 218 = some ⟨TK.int IntKind.u64, 1, V.i IntKind.u64 (0)⟩ := by kernel_rfl
theorem zo218 : zeroOf En.P 218 = V.i IntKind.u64 (0) := by kernel_rfl
theorem ty223 : tyOf En.P 223 = some ⟨TK.st [(0, 1, false), (1, 1, false)], 2, V.ag [V.i IntKind.u8 (0), V.i IntKind.u8 (0)]⟩ := by kernel_rfl
theorem zo223 : zeroOf En.P 223 = V.ag [V.i IntKind.u8 (0), V.i IntKind.u8 (0)] := by kernel_rfl
theorem ty224 : tyOf En.P 224 = some ⟨TK.st [(0, 1, false), (1, 1, false)], 2, V.ag [V.i IntKind.u8 (0), V.i IntKind.u8 (0)]⟩ := by kernel_rfl
theorem zo224 : zeroOf En.P 224 = V.ag [V.i IntKind.u8 (0), V.i IntKind.u8 (0)] := by kernel_rfl
theorem ty226 : tyOf En.P 226 = some ⟨TK.int IntKind.u32, 1, V.i IntKind.u32 (0)⟩ := by kernel_rfl
theorem zo226 : zeroOf En.P 226 = V.i IntKind.u32 (0) := by kernel_rfl
theorem ty229 : tyOf En.P 229 = some ⟨TK.int IntKind.i64, 1, V.i IntKind.i64 (0)⟩ := by kernel_rfl
theorem zo229 : zeroOf En.P 229 = V.i IntKind.i64 (0) := by kernel_rfl
end

section
mutual
def eC : E → List V
  | .mk k n s kids => [.i .i64 k, .i .i64 n, .s s, .sl false (eR kids)]
def eR : List E → List (List V)
  | [] => []
  | e :: r => eC e :: eR r
end
theorem eC_eq (e : E) : eC e = [.i .i64 e.kind, .i .i64 e.n, .s e.s, .sl false (eR e.kids)] := by cases e; simp only [eC, E.kind, E.n, E.s, E.kids]
theorem eR_map : ∀ l : List E, eR l = l.map eC
  | [] => by simp only [eR, List.map_nil]
  | e :: r => by simp only [eR, List.map_cons, eR_map r]
theorem eR_len (l : List E) : (eR l).length = l.length := by rw [eR_map, List.length_map]
theorem eR_get {l : List E} {k : Nat} (h : k < l.length) : (eR l).getD k [] = eC (l.getD k E0) := by
  rw [eR_map]; simp [List.getD_eq_getElem?_getD, List.getElem?_eq_getElem h]
mutual
theorem eC_pure : ∀ e : E, pures (eC e) = true
  | .mk k n s kids => by simp only [eC, pures, V.pure, eR_pure kids, Bool.and_self]
theorem eR_pure : ∀ l : List E, purer (eR l) = true
  | [] => by simp only [eR, purer]
  | e :: r => by simp only [eR, purer, eC_pure e, eR_pure r, Bool.and_self]
end
def byR (b : Str) : List (List V) := b.map fun c => [.i .u8 c.toNat]
theorem byR_len (b : Str) : (byR b).length = b.length := by simp [byR]
theorem byR_pure : ∀ b : Str, purer (byR b) = true
  | [] => rfl
  | c :: b => by simp only [byR, List.map_cons, purer, pures, V.pure, Bool.true_and]; exact byR_pure b
theorem byR_get {b : Str} {k : Nat} (h : k < b.length) : (byR b).getD k [] = [.i .u8 (b.getD k 0).toNat] := by
  simp [byR, List.getD_eq_getElem?_getD, List.getElem?_eq_getElem h]
theorem byR_take (b : Str) (k : Nat) : (byR b).take k = byR (b.take k) := by simp [byR, List.map_take]
theorem ex_sl (a b c : Nat) (d : List V) : (∃ el z y zc, some (TK.sl a b c d) = some (TK.sl el z y zc)) = True := eq_true ⟨a, b, c, d, rfl⟩
end

section
attribute [go_sem] lxs isCall gE gO evO obO eff_some eff_none St.pv St.ev peel peelC pcB Op.operands Call.operands V.ofConst V.ofConst1 nm pickV pickC isPtr convV convC idxV idxC maxV minV sameK tySl tySt tySz TK.agg fillO fillRO abinV abinC aintV aintC astrV astrC aboolV aboolC aunV aunC cellsV ldV ldC namesOf stV okC stC fldV fldC ixaV ixaC fillV fillR partsOf isC boxV extV extC lenV lenC slcV slcC bndC ioV srcR appC appE mkE V.one V.cells isB gcond putL memOf_nil memOf_cons putM delM wrL use_lit callE wrapV rnB rn rns rnr call0 callN callB callI callBI callNI newMO setMO getMO newE setE mR_pure nilO nilV purer_app peelC_unB peel_unB List.head?_cons List.head?_nil callM callBM callA lend les leV ler leV_refl les_refl ler_refl bsO bsE cvO cvV bytesV frz frzs frzr frzB frzM memEq clrs pures purer V.pure cls clr V.cl flats V.flat us List.getD_cons_zero List.getD_cons_succ List.getD_nil List.set_cons_zero List.set_cons_succ List.set_nil List.getElem?_cons_zero List.getElem?_cons_succ List.getElem?_nil Option.map_some Option.map_none Option.bind_some Option.bind_none Option.getD_some Option.getD_none Option.isSome_some Option.isNone_none Option.isNone_some Option.toArray_some Option.toArray_none List.toList_toArray List.map_cons List.map_nil List.append_nil List.nil_append List.cons_append List.all_cons List.all_nil List.all_append List.isEmpty_nil List.isEmpty_cons List.reverse_cons List.reverse_nil List.drop_zero List.drop_succ_cons List.drop_nil List.take_zero List.take_succ_cons List.take_nil List.length_cons List.length_nil List.zip_cons_cons List.zip_nil_left List.zip_nil_right List.flatMap_cons List.flatMap_nil List.replicate_succ List.replicate_zero Array.toList_append List.getElem?_toArray Array.getD_eq_getD_getElem? Bool.true_and Bool.and_true Bool.false_and Bool.and_false Bool.not_true Bool.not_false Bool.and_self beq_self_eq_true and_true true_and and_self cond_true cond_false if_true if_false ite_true ite_false decide_true decide_false Bool.decide_eq_true true_implies implies_true imp_self Nat.zero_add Nat.le_refl Nat.add_zero Nat.zero_mul Int.toNat_zero List.contains_nil List.contains_cons Bool.or_false Bool.or_true Bool.false_or Bool.true_or true_or or_true eq_self List.append_toArray Bool.false_eq_true Array.size_empty List.push_toArray List.size_toArray Array.toList_map Array.toList_empty Bool.cond_false_right Bool.cond_true_left beq_true beq_false Int.toNat_natCast strR_len strR_pure innr_pure rnr_pure clr_pure frzr_pure eC_eq eR_len eR_pure En_own byR_len byR_pure byR_take ex_sl ifO maxO ifV_peel ifV_peelC ifV_pure ifV_flat ifV_rn ifV_inn ifV_cl ty2 zo2 ty3 zo3 ty4 zo4 ty5 zo5 ty6 zo6 ty7 zo7 ty8 zo8 ty9 zo9 ty10 zo10 ty11 zo11 ty12 zo12 ty13 zo13 ty14 zo14 ty15 zo15 ty16 zo16 ty17 zo17 ty18 zo18 ty19 zo19 ty21 zo21 ty22 zo22 ty23 zo23 ty25 zo25 ty28 zo28 ty29 zo29 ty30 zo30 ty31 zo31 ty32 zo32 ty35 zo35 ty37 zo37 ty44 zo44 ty45 zo45 ty46 zo46 ty47 zo47 ty52 zo52 ty55 zo55 ty56 zo56 ty59 zo59 ty62 zo62 ty63 zo63 ty64 zo64 ty80 zo80 ty81 zo81 ty86 zo86 ty96 zo96 ty135 zo135 ty138 zo138 ty139 zo139 ty140 zo140 ty143 zo143 ty144 zo144 ty146 zo146 ty147 zo147 ty163 zo163 ty164 zo164 ty165 zo165 ty181 zo181 ty198 zo198 ty199 zo199 ty200 zo200 ty201 zo201 ty213 zo213 ty218 zo218 ty223 zo223 ty224 zo224 ty226 zo226 ty229 zo229
end
end Go.Proofs.YteihfmnmpdbkiaaGreatDoor
