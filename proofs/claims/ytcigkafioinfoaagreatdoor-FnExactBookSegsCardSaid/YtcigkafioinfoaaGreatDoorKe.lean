/- The program as an environment of the tree logic: what its package variables hold. Conditions: none. -/
import Derived.Test.YtcigkafioinfoaaGreatDoorKb
import Derived.Test.YtcigkafioinfoaaGreatDoorProg
import Derived.Test.YtcigkafioinfoaaGreatDoorKc
import Derived.Lib.LaidTab
set_option linter.unusedVariables false
set_option linter.unusedSimpArgs false
namespace Go.Proofs.YtcigkafioinfoaaGreatDoor
section
open Go.RowKit
def ownW : List Str := [[108, 101, 116], [115, 97, 121], [119, 104, 101, 110], [97, 115], [112, 114, 105, 110, 116], [105, 102], [105, 110, 116], [98, 111, 111, 108]]
def b6_ (l : List Str) : List (List V) := l.map fun s => [.s s]
theorem ac_ (l : List Str) : (b6_ l).length = l.length := by simp [b6_]
theorem cy_ {l : List Str} {k : Nat} (h : k < l.length) : (b6_ l).getD k [] = [.s (l.getD k [])] := by
 simp [b6_, T8_, T6_ h]
theorem ab_ : ∀ l : List Str, cj_ (b6_ l) = true
 | [] => rfl
 | s :: l => by simp only [b6_, List.map_cons, cj_, cq_, V.pure, Bool.true_and]; exact ab_ l
structure Gl (B : Nat) (w : World) : Prop where
 tab : Lib.TabIs Tryz.prog w "internal/strconv.uint64pow10" .u64 Lib.pow10Tab
 syn : ∃ tp p, w.var? Tryz.prog "strconv.ErrSyntax" = some #[.iface tp p]
 rng : ∃ tp p, w.var? Tryz.prog "strconv.ErrRange" = some #[.iface tp p]
 maxl : ∃ m : Int, w.cell? ⟨1, 0, none⟩ = some (.int .i64 m)
 many : 6 < B ∧ 4 < B ∧ 5 < B ∧ 1 < B
theorem mk_ {P : Program} {B g : Nat} {W W' : World} {n : String} {cs : Array Value} (h : ∀ g, g < B → W'.heap[g]? = W.heap[g]?) (hg : P.globalNamed n = some g) (hgB : g < B) (hv : W.var? P n = some cs) : W'.var? P n = some cs := by
 unfold World.var? at hv ⊢
 simp only [hg, Option.bind_some] at hv ⊢
 rw [h g hgB]
 exact hv
theorem gTab : Tryz.prog.globalNamed "internal/strconv.uint64pow10" = some 6 := by kernel_rfl
theorem gSyn : Tryz.prog.globalNamed "strconv.ErrSyntax" = some 4 := by kernel_rfl
theorem gRng : Tryz.prog.globalNamed "strconv.ErrRange" = some 5 := by kernel_rfl
theorem Gl.same {B : Nat} {w w' : World} (h : Gl B w) (hb : ∀ g, g < B → w'.heap[g]? = w.heap[g]?) : Gl B w' := by
 obtain ⟨m1, m2, m3, m4⟩ := h.many
 obtain ⟨m, hm⟩ := h.maxl
 obtain ⟨t1, p1, s1⟩ := h.syn
 obtain ⟨t2, p2, s2⟩ := h.rng
 exact ⟨mk_ hb gTab m1 h.tab, ⟨t1, p1, mk_ hb gSyn m2 s1⟩, ⟨t2, p2, mk_ hb gRng m3 s2⟩, ⟨m, by unfold World.cell? at hm ⊢; rw [hb _ m4]; exact hm⟩, h.many⟩
noncomputable def En : Env := ⟨Tryz.prog, fun g => if g = 0 then some [.sl false (b6_ ownW)] else none, Gl, fun _ _ _ h hb => h.same hb⟩
theorem ajv_ : En.G 0 = some [.sl false (b6_ ownW)] := rfl
theorem enM : En.P.follows .mixedOrders = true := by kernel_rfl
end
section
theorem ty2 : b8_ En.P 2 = some ⟨TK.int IntKind.i64, 1, V.i IntKind.i64 (0)⟩ := by kernel_rfl
theorem zo2 : b2_ En.P 2 = V.i IntKind.i64 (0) := by kernel_rfl
theorem ty3 : b8_ En.P 3 = some ⟨TK.int IntKind.i64, 1, V.i IntKind.i64 (0)⟩ := by kernel_rfl
theorem zo3 : b2_ En.P 3 = V.i IntKind.i64 (0) := by kernel_rfl
theorem ty4 : b8_ En.P 4 = some ⟨TK.bool, 1, V.b false⟩ := by kernel_rfl
theorem zo4 : b2_ En.P 4 = V.b false := by kernel_rfl
theorem ty5 : b8_ En.P 5 = some ⟨TK.int IntKind.u8, 1, V.i IntKind.u8 (0)⟩ := by kernel_rfl
theorem zo5 : b2_ En.P 5 = V.i IntKind.u8 (0) := by kernel_rfl
theorem ty6 : b8_ En.P 6 = some ⟨TK.int IntKind.u8, 1, V.i IntKind.u8 (0)⟩ := by kernel_rfl
theorem zo6 : b2_ En.P 6 = V.i IntKind.u8 (0) := by kernel_rfl
theorem ty7 : b8_ En.P 7 = some ⟨TK.st [(0, 1, false), (1, 1, false), (2, 1, false), (3, 1, false)], 4, V.ag [V.i IntKind.i64 (0), V.i IntKind.i64 (0), V.b false, V.i IntKind.u8 (0)]⟩ := by kernel_rfl
theorem zo7 : b2_ En.P 7 = V.ag [V.i IntKind.i64 (0), V.i IntKind.i64 (0), V.b false, V.i IntKind.u8 (0)] := by kernel_rfl
theorem ty8 : b8_ En.P 8 = some ⟨TK.st [(0, 1, false), (1, 1, false), (2, 1, false), (3, 1, false)], 4, V.ag [V.i IntKind.i64 (0), V.i IntKind.i64 (0), V.b false, V.i IntKind.u8 (0)]⟩ := by kernel_rfl
theorem zo8 : b2_ En.P 8 = V.ag [V.i IntKind.i64 (0), V.i IntKind.i64 (0), V.b false, V.i IntKind.u8 (0)] := by kernel_rfl
theorem ty9 : b8_ En.P 9 = some ⟨TK.str, 1, V.s []⟩ := by kernel_rfl
theorem zo9 : b2_ En.P 9 = V.s [] := by kernel_rfl
theorem ty10 : b8_ En.P 10 = some ⟨TK.str, 1, V.s []⟩ := by kernel_rfl
theorem zo10 : b2_ En.P 10 = V.s [] := by kernel_rfl
theorem ty11 : b8_ En.P 11 = some ⟨TK.str, 1, V.s []⟩ := by kernel_rfl
theorem zo11 : b2_ En.P 11 = V.s [] := by kernel_rfl
theorem ty12 : b8_ En.P 12 = some ⟨TK.int IntKind.u64, 1, V.i IntKind.u64 (0)⟩ := by kernel_rfl
theorem zo12 : b2_ En.P 12 = V.i IntKind.u64 (0) := by kernel_rfl
theorem ty13 : b8_ En.P 13 = some ⟨TK.st [(0, 1, false), (1, 1, false)], 2, V.ag [V.s [], V.i IntKind.u64 (0)]⟩ := by kernel_rfl
theorem zo13 : b2_ En.P 13 = V.ag [V.s [], V.i IntKind.u64 (0)] := by kernel_rfl
theorem ty14 : b8_ En.P 14 = some ⟨TK.st [(0, 1, false), (1, 1, false)], 2, V.ag [V.s [], V.i IntKind.u64 (0)]⟩ := by kernel_rfl
theorem zo14 : b2_ En.P 14 = V.ag [V.s [], V.i IntKind.u64 (0)] := by kernel_rfl
theorem ty15 : b8_ En.P 15 = some ⟨TK.other, 1, V.np⟩ := by kernel_rfl
theorem zo15 : b2_ En.P 15 = V.np := by kernel_rfl
theorem ty16 : b8_ En.P 16 = some ⟨TK.other, 1, V.np⟩ := by kernel_rfl
theorem zo16 : b2_ En.P 16 = V.np := by kernel_rfl
theorem ty17 : b8_ En.P 17 = some ⟨TK.other, 1, V.np⟩ := by kernel_rfl
theorem zo17 : b2_ En.P 17 = V.np := by kernel_rfl
theorem ty18 : b8_ En.P 18 = some ⟨TK.st [(0, 1, false)], 1, V.ag [V.np]⟩ := by kernel_rfl
theorem zo18 : b2_ En.P 18 = V.ag [V.np] := by kernel_rfl
theorem ty19 : b8_ En.P 19 = some ⟨TK.st [(0, 1, false)], 1, V.ag [V.np]⟩ := by kernel_rfl
theorem zo19 : b2_ En.P 19 = V.ag [V.np] := by kernel_rfl
theorem ty21 : b8_ En.P 21 = some ⟨TK.int IntKind.i32, 1, V.i IntKind.i32 (0)⟩ := by kernel_rfl
theorem zo21 : b2_ En.P 21 = V.i IntKind.i32 (0) := by kernel_rfl
theorem ty22 : b8_ En.P 22 = some ⟨TK.sl 5 1 1 [V.i IntKind.u8 (0)], 1, V.sl true []⟩ := by kernel_rfl
theorem zo22 : b2_ En.P 22 = V.sl true [] := by kernel_rfl
theorem ty23 : b8_ En.P 23 = some ⟨TK.sl 39 4 64 [V.s [], V.b false, V.s [], V.sl true []], 1, V.sl true []⟩ := by kernel_rfl
theorem zo23 : b2_ En.P 23 = V.sl true [] := by kernel_rfl
theorem ty27 : b8_ En.P 27 = some ⟨TK.sl 3 1 8 [V.i IntKind.i64 (0)], 1, V.sl true []⟩ := by kernel_rfl
theorem zo27 : b2_ En.P 27 = V.sl true [] := by kernel_rfl
theorem ty30 : b8_ En.P 30 = some ⟨TK.sl 35 11 152 [V.i IntKind.i64 (0), V.s [], V.s [], V.i IntKind.i64 (0), V.i IntKind.i64 (0), V.s [], V.sl true [], V.i IntKind.i64 (0), V.i IntKind.i64 (0), V.s [], V.sl true []], 1, V.sl true []⟩ := by kernel_rfl
theorem zo30 : b2_ En.P 30 = V.sl true [] := by kernel_rfl
theorem ty31 : b8_ En.P 31 = some ⟨TK.sl 33 4 56 [V.i IntKind.i64 (0), V.i IntKind.i64 (0), V.s [], V.sl true []], 1, V.sl true []⟩ := by kernel_rfl
theorem zo31 : b2_ En.P 31 = V.sl true [] := by kernel_rfl
theorem ty32 : b8_ En.P 32 = some ⟨TK.st [(0, 1, false), (1, 1, false), (2, 1, false), (3, 1, false)], 4, V.ag [V.i IntKind.i64 (0), V.i IntKind.i64 (0), V.s [], V.sl true []]⟩ := by kernel_rfl
theorem zo32 : b2_ En.P 32 = V.ag [V.i IntKind.i64 (0), V.i IntKind.i64 (0), V.s [], V.sl true []] := by kernel_rfl
theorem ty33 : b8_ En.P 33 = some ⟨TK.st [(0, 1, false), (1, 1, false), (2, 1, false), (3, 1, false)], 4, V.ag [V.i IntKind.i64 (0), V.i IntKind.i64 (0), V.s [], V.sl true []]⟩ := by kernel_rfl
theorem zo33 : b2_ En.P 33 = V.ag [V.i IntKind.i64 (0), V.i IntKind.i64 (0), V.s [], V.sl true []] := by kernel_rfl
theorem ty34 : b8_ En.P 34 = some ⟨TK.st [(0, 1, false), (1, 1, false), (2, 1, false), (3, 4, true), (7, 4, true)], 11, V.ag [V.i IntKind.i64 (0), V.s [], V.s [], V.i IntKind.i64 (0), V.i IntKind.i64 (0), V.s [], V.sl true [], V.i IntKind.i64 (0), V.i IntKind.i64 (0), V.s [], V.sl true []]⟩ := by kernel_rfl
theorem zo34 : b2_ En.P 34 = V.ag [V.i IntKind.i64 (0), V.s [], V.s [], V.i IntKind.i64 (0), V.i IntKind.i64 (0), V.s [], V.sl true [], V.i IntKind.i64 (0), V.i IntKind.i64 (0), V.s [], V.sl true []] := by kernel_rfl
theorem ty35 : b8_ En.P 35 = some ⟨TK.st [(0, 1, false), (1, 1, false), (2, 1, false), (3, 4, true), (7, 4, true)], 11, V.ag [V.i IntKind.i64 (0), V.s [], V.s [], V.i IntKind.i64 (0), V.i IntKind.i64 (0), V.s [], V.sl true [], V.i IntKind.i64 (0), V.i IntKind.i64 (0), V.s [], V.sl true []]⟩ := by kernel_rfl
theorem zo35 : b2_ En.P 35 = V.ag [V.i IntKind.i64 (0), V.s [], V.s [], V.i IntKind.i64 (0), V.i IntKind.i64 (0), V.s [], V.sl true [], V.i IntKind.i64 (0), V.i IntKind.i64 (0), V.s [], V.sl true []] := by kernel_rfl
theorem ty38 : b8_ En.P 38 = some ⟨TK.st [(0, 1, false), (1, 1, false), (2, 1, false), (3, 1, false)], 4, V.ag [V.s [], V.b false, V.s [], V.sl true []]⟩ := by kernel_rfl
theorem zo38 : b2_ En.P 38 = V.ag [V.s [], V.b false, V.s [], V.sl true []] := by kernel_rfl
theorem ty39 : b8_ En.P 39 = some ⟨TK.st [(0, 1, false), (1, 1, false), (2, 1, false), (3, 1, false)], 4, V.ag [V.s [], V.b false, V.s [], V.sl true []]⟩ := by kernel_rfl
theorem zo39 : b2_ En.P 39 = V.ag [V.s [], V.b false, V.s [], V.sl true []] := by kernel_rfl
theorem ty42 : b8_ En.P 42 = some ⟨TK.sl 44 4 56 [V.i IntKind.i64 (0), V.i IntKind.i64 (0), V.s [], V.sl true []], 1, V.sl true []⟩ := by kernel_rfl
theorem zo42 : b2_ En.P 42 = V.sl true [] := by kernel_rfl
theorem ty43 : b8_ En.P 43 = some ⟨TK.st [(0, 1, false), (1, 1, false), (2, 1, false), (3, 1, false)], 4, V.ag [V.i IntKind.i64 (0), V.i IntKind.i64 (0), V.s [], V.sl true []]⟩ := by kernel_rfl
theorem zo43 : b2_ En.P 43 = V.ag [V.i IntKind.i64 (0), V.i IntKind.i64 (0), V.s [], V.sl true []] := by kernel_rfl
theorem ty44 : b8_ En.P 44 = some ⟨TK.st [(0, 1, false), (1, 1, false), (2, 1, false), (3, 1, false)], 4, V.ag [V.i IntKind.i64 (0), V.i IntKind.i64 (0), V.s [], V.sl true []]⟩ := by kernel_rfl
theorem zo44 : b2_ En.P 44 = V.ag [V.i IntKind.i64 (0), V.i IntKind.i64 (0), V.s [], V.sl true []] := by kernel_rfl
theorem ty45 : b8_ En.P 45 = some ⟨TK.st [(0, 1, false), (1, 1, false), (2, 1, false), (3, 4, true), (7, 4, true)], 11, V.ag [V.i IntKind.i64 (0), V.s [], V.s [], V.i IntKind.i64 (0), V.i IntKind.i64 (0), V.s [], V.sl true [], V.i IntKind.i64 (0), V.i IntKind.i64 (0), V.s [], V.sl true []]⟩ := by kernel_rfl
theorem zo45 : b2_ En.P 45 = V.ag [V.i IntKind.i64 (0), V.s [], V.s [], V.i IntKind.i64 (0), V.i IntKind.i64 (0), V.s [], V.sl true [], V.i IntKind.i64 (0), V.i IntKind.i64 (0), V.s [], V.sl true []] := by kernel_rfl
theorem ty46 : b8_ En.P 46 = some ⟨TK.st [(0, 1, false), (1, 1, false), (2, 1, false), (3, 4, true), (7, 4, true)], 11, V.ag [V.i IntKind.i64 (0), V.s [], V.s [], V.i IntKind.i64 (0), V.i IntKind.i64 (0), V.s [], V.sl true [], V.i IntKind.i64 (0), V.i IntKind.i64 (0), V.s [], V.sl true []]⟩ := by kernel_rfl
theorem zo46 : b2_ En.P 46 = V.ag [V.i IntKind.i64 (0), V.s [], V.s [], V.i IntKind.i64 (0), V.i IntKind.i64 (0), V.s [], V.sl true [], V.i IntKind.i64 (0), V.i IntKind.i64 (0), V.s [], V.sl true []] := by kernel_rfl
theorem ty56 : b8_ En.P 56 = some ⟨TK.sl 137 10 136 [V.i IntKind.i64 (0), V.s [], V.i IntKind.i64 (0), V.i IntKind.i64 (0), V.s [], V.sl true [], V.i IntKind.i64 (0), V.i IntKind.i64 (0), V.s [], V.sl true []], 1, V.sl true []⟩ := by kernel_rfl
theorem zo56 : b2_ En.P 56 = V.sl true [] := by kernel_rfl
theorem ty59 : b8_ En.P 59 = some ⟨TK.sl 83 10 136 [V.i IntKind.i64 (0), V.s [], V.i IntKind.i64 (0), V.i IntKind.i64 (0), V.s [], V.sl true [], V.i IntKind.i64 (0), V.i IntKind.i64 (0), V.s [], V.sl true []], 1, V.sl true []⟩ := by kernel_rfl
theorem zo59 : b2_ En.P 59 = V.sl true [] := by kernel_rfl
theorem ty64 : b8_ En.P 64 = some ⟨TK.sl 46 11 152 [V.i IntKind.i64 (0), V.s [], V.s [], V.i IntKind.i64 (0), V.i IntKind.i64 (0), V.s [], V.sl true [], V.i IntKind.i64 (0), V.i IntKind.i64 (0), V.s [], V.sl true []], 1, V.sl true []⟩ := by kernel_rfl
theorem zo64 : b2_ En.P 64 = V.sl true [] := by kernel_rfl
theorem ty66 : b8_ En.P 66 = some ⟨TK.sl 98 4 32 [V.i IntKind.i64 (0), V.i IntKind.i64 (0), V.i IntKind.i64 (0), V.i IntKind.i64 (0)], 1, V.sl true []⟩ := by kernel_rfl
theorem zo66 : b2_ En.P 66 = V.sl true [] := by kernel_rfl
theorem ty74 : b8_ En.P 74 = some ⟨TK.sl 150 4 64 [V.s [], V.b false, V.s [], V.sl true []], 1, V.sl true []⟩ := by kernel_rfl
theorem zo74 : b2_ En.P 74 = V.sl true [] := by kernel_rfl
theorem ty82 : b8_ En.P 82 = some ⟨TK.st [(0, 1, false), (1, 1, false), (2, 4, true), (6, 4, true)], 10, V.ag [V.i IntKind.i64 (0), V.s [], V.i IntKind.i64 (0), V.i IntKind.i64 (0), V.s [], V.sl true [], V.i IntKind.i64 (0), V.i IntKind.i64 (0), V.s [], V.sl true []]⟩ := by kernel_rfl
theorem zo82 : b2_ En.P 82 = V.ag [V.i IntKind.i64 (0), V.s [], V.i IntKind.i64 (0), V.i IntKind.i64 (0), V.s [], V.sl true [], V.i IntKind.i64 (0), V.i IntKind.i64 (0), V.s [], V.sl true []] := by kernel_rfl
theorem ty83 : b8_ En.P 83 = some ⟨TK.st [(0, 1, false), (1, 1, false), (2, 4, true), (6, 4, true)], 10, V.ag [V.i IntKind.i64 (0), V.s [], V.i IntKind.i64 (0), V.i IntKind.i64 (0), V.s [], V.sl true [], V.i IntKind.i64 (0), V.i IntKind.i64 (0), V.s [], V.sl true []]⟩ := by kernel_rfl
theorem zo83 : b2_ En.P 83 = V.ag [V.i IntKind.i64 (0), V.s [], V.i IntKind.i64 (0), V.i IntKind.i64 (0), V.s [], V.sl true [], V.i IntKind.i64 (0), V.i IntKind.i64 (0), V.s [], V.sl true []] := by kernel_rfl
theorem ty88 : b8_ En.P 88 = some ⟨TK.sl 9 1 16 [V.s []], 1, V.sl true []⟩ := by kernel_rfl
theorem zo88 : b2_ En.P 88 = V.sl true [] := by kernel_rfl
theorem ty92 : b8_ En.P 92 = some ⟨TK.sl 100 3 32 [V.i IntKind.i64 (0), V.s [], V.i IntKind.i64 (0)], 1, V.sl true []⟩ := by kernel_rfl
theorem zo92 : b2_ En.P 92 = V.sl true [] := by kernel_rfl
theorem ty95 : b8_ En.P 95 = some ⟨TK.st [(0, 1, false), (1, 1, false)], 2, V.ag [V.i IntKind.i64 (0), V.i IntKind.i64 (0)]⟩ := by kernel_rfl
theorem zo95 : b2_ En.P 95 = V.ag [V.i IntKind.i64 (0), V.i IntKind.i64 (0)] := by kernel_rfl
theorem ty96 : b8_ En.P 96 = some ⟨TK.st [(0, 1, false), (1, 1, false)], 2, V.ag [V.i IntKind.i64 (0), V.i IntKind.i64 (0)]⟩ := by kernel_rfl
theorem zo96 : b2_ En.P 96 = V.ag [V.i IntKind.i64 (0), V.i IntKind.i64 (0)] := by kernel_rfl
theorem ty97 : b8_ En.P 97 = some ⟨TK.st [(0, 2, true), (2, 2, true)], 4, V.ag [V.i IntKind.i64 (0), V.i IntKind.i64 (0), V.i IntKind.i64 (0), V.i IntKind.i64 (0)]⟩ := by kernel_rfl
theorem zo97 : b2_ En.P 97 = V.ag [V.i IntKind.i64 (0), V.i IntKind.i64 (0), V.i IntKind.i64 (0), V.i IntKind.i64 (0)] := by kernel_rfl
theorem ty98 : b8_ En.P 98 = some ⟨TK.st [(0, 2, true), (2, 2, true)], 4, V.ag [V.i IntKind.i64 (0), V.i IntKind.i64 (0), V.i IntKind.i64 (0), V.i IntKind.i64 (0)]⟩ := by kernel_rfl
theorem zo98 : b2_ En.P 98 = V.ag [V.i IntKind.i64 (0), V.i IntKind.i64 (0), V.i IntKind.i64 (0), V.i IntKind.i64 (0)] := by kernel_rfl
theorem ty99 : b8_ En.P 99 = some ⟨TK.st [(0, 1, false), (1, 1, false), (2, 1, false)], 3, V.ag [V.i IntKind.i64 (0), V.s [], V.i IntKind.i64 (0)]⟩ := by kernel_rfl
theorem zo99 : b2_ En.P 99 = V.ag [V.i IntKind.i64 (0), V.s [], V.i IntKind.i64 (0)] := by kernel_rfl
theorem amr_ : b8_ En.P 100 = some ⟨TK.st [(0, 1, false), (1, 1, false), (2, 1, false)], 3, V.ag [V.i IntKind.i64 (0), V.s [], V.i IntKind.i64 (0)]⟩ := by kernel_rfl
theorem als_ : b2_ En.P 100 = V.ag [V.i IntKind.i64 (0), V.s [], V.i IntKind.i64 (0)] := by kernel_rfl
theorem al2_ : b8_ En.P 103 = some ⟨TK.sl 96 2 16 [V.i IntKind.i64 (0), V.i IntKind.i64 (0)], 1, V.sl true []⟩ := by kernel_rfl
theorem al4_ : b2_ En.P 103 = V.sl true [] := by kernel_rfl
theorem alu_ : b8_ En.P 106 = some ⟨TK.other, 1, V.np⟩ := by kernel_rfl
theorem alk_ : b2_ En.P 106 = V.np := by kernel_rfl
theorem ams_ : b8_ En.P 126 = some ⟨TK.sl 131 2 24 [V.s [], V.i IntKind.i64 (0)], 1, V.sl true []⟩ := by kernel_rfl
theorem amn_ : b2_ En.P 126 = V.sl true [] := by kernel_rfl
theorem alh_ : b8_ En.P 130 = some ⟨TK.st [(0, 1, false), (1, 1, false)], 2, V.ag [V.s [], V.i IntKind.i64 (0)]⟩ := by kernel_rfl
theorem amc_ : b2_ En.P 130 = V.ag [V.s [], V.i IntKind.i64 (0)] := by kernel_rfl
theorem amu_ : b8_ En.P 131 = some ⟨TK.st [(0, 1, false), (1, 1, false)], 2, V.ag [V.s [], V.i IntKind.i64 (0)]⟩ := by kernel_rfl
theorem alj_ : b2_ En.P 131 = V.ag [V.s [], V.i IntKind.i64 (0)] := by kernel_rfl
theorem alx_ : b8_ En.P 136 = some ⟨TK.st [(0, 1, false), (1, 1, false), (2, 4, true), (6, 4, true)], 10, V.ag [V.i IntKind.i64 (0), V.s [], V.i IntKind.i64 (0), V.i IntKind.i64 (0), V.s [], V.sl true [], V.i IntKind.i64 (0), V.i IntKind.i64 (0), V.s [], V.sl true []]⟩ := by kernel_rfl
theorem ama_ : b2_ En.P 136 = V.ag [V.i IntKind.i64 (0), V.s [], V.i IntKind.i64 (0), V.i IntKind.i64 (0), V.s [], V.sl true [], V.i IntKind.i64 (0), V.i IntKind.i64 (0), V.s [], V.sl true []] := by kernel_rfl
theorem amt_ : b8_ En.P 137 = some ⟨TK.st [(0, 1, false), (1, 1, false), (2, 4, true), (6, 4, true)], 10, V.ag [V.i IntKind.i64 (0), V.s [], V.i IntKind.i64 (0), V.i IntKind.i64 (0), V.s [], V.sl true [], V.i IntKind.i64 (0), V.i IntKind.i64 (0), V.s [], V.sl true []]⟩ := by kernel_rfl
theorem aml_ : b2_ En.P 137 = V.ag [V.i IntKind.i64 (0), V.s [], V.i IntKind.i64 (0), V.i IntKind.i64 (0), V.s [], V.sl true [], V.i IntKind.i64 (0), V.i IntKind.i64 (0), V.s [], V.sl true []] := by kernel_rfl
theorem ali_ : b8_ En.P 150 = some ⟨TK.st [(0, 1, false), (1, 1, false), (2, 1, false), (3, 1, false)], 4, V.ag [V.s [], V.b false, V.s [], V.sl true []]⟩ := by kernel_rfl
theorem ale_ : b2_ En.P 150 = V.ag [V.s [], V.b false, V.s [], V.sl true []] := by kernel_rfl
theorem al3_ : b8_ En.P 164 = some ⟨TK.st [(0, 1, false), (1, 1, false)], 2, V.ag [V.sl true [], V.i IntKind.i64 (0)]⟩ := by kernel_rfl
theorem al9_ : b2_ En.P 164 = V.ag [V.sl true [], V.i IntKind.i64 (0)] := by kernel_rfl
theorem amg_ : b8_ En.P 165 = some ⟨TK.st [(0, 1, false), (1, 1, false)], 2, V.ag [V.sl true [], V.i IntKind.i64 (0)]⟩ := by kernel_rfl
theorem alr_ : b2_ En.P 165 = V.ag [V.sl true [], V.i IntKind.i64 (0)] := by kernel_rfl
theorem al5_ : b8_ En.P 181 = some ⟨TK.sl 185 2 24 [V.s [], V.i IntKind.i64 (0)], 1, V.sl true []⟩ := by kernel_rfl
theorem ame_ : b2_ En.P 181 = V.sl true [] := by kernel_rfl
theorem amb_ : b8_ En.P 184 = some ⟨TK.st [(0, 1, false), (1, 1, false)], 2, V.ag [V.s [], V.i IntKind.i64 (0)]⟩ := by kernel_rfl
theorem amj_ : b2_ En.P 184 = V.ag [V.s [], V.i IntKind.i64 (0)] := by kernel_rfl
theorem alc_ : b8_ En.P 185 = some ⟨TK.st [(0, 1, false), (1, 1, false)], 2, V.ag [V.s [], V.i IntKind.i64 (0)]⟩ := by kernel_rfl
theorem amq_ : b2_ En.P 185 = V.ag [V.s [], V.i IntKind.i64 (0)] := by kernel_rfl
theorem alt_ : b8_ En.P 205 = some ⟨TK.other, 1, V.np⟩ := by kernel_rfl
theorem alo_ : b2_ En.P 205 = V.np := by kernel_rfl
theorem ala_ : b8_ En.P 206 = some ⟨TK.st [(0, 1, false), (1, 1, false), (2, 1, false)], 3, V.ag [V.sl true [], V.b false, V.i IntKind.i64 (0)]⟩ := by kernel_rfl
theorem alz_ : b2_ En.P 206 = V.ag [V.sl true [], V.b false, V.i IntKind.i64 (0)] := by kernel_rfl
theorem amv_ : b8_ En.P 207 = some ⟨TK.st [(0, 1, false), (1, 1, false), (2, 1, false)], 3, V.ag [V.sl true [], V.b false, V.i IntKind.i64 (0)]⟩ := by kernel_rfl
theorem al7_ : b2_ En.P 207 = V.ag [V.sl true [], V.b false, V.i IntKind.i64 (0)] := by kernel_rfl
theorem aln_ : b8_ En.P 213 = some ⟨TK.other, 1, V.np⟩ := by kernel_rfl
theorem ami_ : b2_ En.P 213 = V.np := by kernel_rfl
end
section
mutual
def eC : E → List V
 | .mk k n s kids => [.i .i64 k, .i .i64 n, .s s, .sl false (eR kids)]
def eR : List E → List (List V)
 | [] => []
 | e :: r => eC e :: eR r
end
theorem bk_ (e : E) : eC e = [.i .i64 e.kind, .i .i64 e.n, .s e.s, .sl false (eR e.kids)] := by cases e; simp only [eC, E.kind, E.n, E.s, E.kids]
theorem mi_ : ∀ l : List E, eR l = l.map eC
 | [] => by simp only [eR, List.map_nil]
 | e :: r => by simp only [eR, List.map_cons, mi_ r]
theorem m5_ (l : List E) : (eR l).length = l.length := by rw [mi_, List.length_map]
theorem ef_ {l : List E} {k : Nat} (h : k < l.length) : (eR l).getD k [] = eC (l.getD k E0) := by
 rw [mi_]; simp [T8_, T6_ h]
mutual
theorem agr_ : ∀ e : E, cq_ (eC e) = true
 | .mk k n s kids => by simp only [eC, cq_, V.pure, it_ kids, Bool.and_self]
theorem it_ : ∀ l : List E, cj_ (eR l) = true
 | [] => by simp only [eR, cj_]
 | e :: r => by simp only [eR, cj_, agr_ e, it_ r, Bool.and_self]
end
def byR (b : Str) : List (List V) := b.map fun c => [.i .u8 c.toNat]
theorem agn_ (b : Str) : (byR b).length = b.length := by simp [byR]
theorem vx_ : ∀ b : Str, cj_ (byR b) = true
 | [] => rfl
 | c :: b => by simp only [byR, List.map_cons, cj_, cq_, V.pure, Bool.true_and]; exact vx_ b
theorem byR_get {b : Str} {k : Nat} (h : k < b.length) : (byR b).getD k [] = [.i .u8 (b.getD k 0).toNat] := by
 simp [byR, T8_, T6_ h]
theorem ae4_ (b : Str) (k : Nat) : (byR b).take k = byR (b.take k) := by simp [byR, List.map_take]
theorem alp_ (a b c : Nat) (d : List V) : (∃ el z y zc, some (TK.sl a b c d) = some (TK.sl el z y zc)) = True := eq_true ⟨a, b, c, d, rfl⟩
end
section
attribute [go_sem] lxs afj_ gE gO evO obO af0_ ab4_ St.pv St.ev peel d5_ pcB Op.operands Call.operands V.ofConst V.ofConst1 nm ajh_ ajj_ ra_ ac5_ ajb_ idxV idxC maxV minV k5_ hn_ s0_ uq_ TK.agg ajl_ x7_ v6_ yy_ vp_ z0_ q6_ yu_ tg_ sm_ aunV aunC mr_ ldV ldC c1_ stV okC stC fldV fldC ixaV ixaC nl_ jb_ gh_ isC ns_ extV extC lenV lenC slcV slcC bndC ioV nt_ appC xe_ mkE V.one V.cells isB he_ f3_ abd_ g9_ hy_ w9_ wrL od_ ek_ hb_ rnB rn rns rnr a9_ cv_ kb_ cw_ age_ adh_ ajc_ ai9_ ajp_ z7_ me_ yq_ nilO nilV rl_ abh_ aek_ List.head?_cons List.head?_nil nd_ pq_ ut_ lend les leV ler fy_ eu_ ap_ bsO bsE cvO cvV gs_ frz gq_ ma_ frzB my_ ao_ av_ cq_ cj_ V.pure cls clr V.cl ne_ V.flat us List.getD_cons_zero List.getD_cons_succ List.getD_nil List.set_cons_zero List.set_cons_succ List.set_nil List.getElem?_cons_zero List.getElem?_cons_succ List.getElem?_nil Option.map_some Option.map_none Option.bind_some Option.bind_none Option.getD_some Option.getD_none Option.isSome_some Option.isNone_none Option.isNone_some Option.toArray_some Option.toArray_none List.toList_toArray List.map_cons List.map_nil List.append_nil List.nil_append List.cons_append List.all_cons List.all_nil List.all_append List.isEmpty_nil List.isEmpty_cons List.reverse_cons List.reverse_nil List.drop_zero List.drop_succ_cons List.drop_nil List.take_zero List.take_succ_cons List.take_nil T7_ List.length_nil List.zip_cons_cons List.zip_nil_left List.zip_nil_right List.flatMap_cons List.flatMap_nil List.replicate_succ List.replicate_zero Array.toList_append List.getElem?_toArray Array.getD_eq_getD_getElem? Bool.true_and Bool.and_true Bool.false_and Bool.and_false Bool.not_true Bool.not_false Bool.and_self beq_self_eq_true and_true true_and and_self cond_true cond_false if_true if_false ite_true ite_false decide_true decide_false Bool.decide_eq_true true_implies implies_true imp_self Nat.zero_add Nat.le_refl Nat.add_zero Nat.zero_mul Int.toNat_zero List.contains_nil List.contains_cons Bool.or_false Bool.or_true Bool.false_or Bool.true_or T9_ Ta_ eq_self List.append_toArray Bool.false_eq_true Array.size_empty List.push_toArray List.size_toArray Array.toList_map Array.toList_empty Bool.cond_false_right Bool.cond_true_left beq_true beq_false Int.toNat_natCast ac_ ab_ in_ ck_ h4_ mg_ bk_ m5_ it_ ajv_ agn_ vx_ ae4_ alp_ ifO maxO acr_ abk_ aeb_ ae0_ ajy_ ahi_ ajz_ ty2 zo2 ty3 zo3 ty4 zo4 ty5 zo5 ty6 zo6 ty7 zo7 ty8 zo8 ty9 zo9 ty10 zo10 ty11 zo11 ty12 zo12 ty13 zo13 ty14 zo14 ty15 zo15 ty16 zo16 ty17 zo17 ty18 zo18 ty19 zo19 ty21 zo21 ty22 zo22 ty23 zo23 ty27 zo27 ty30 zo30 ty31 zo31 ty32 zo32 ty33 zo33 ty34 zo34 ty35 zo35 ty38 zo38 ty39 zo39 ty42 zo42 ty43 zo43 ty44 zo44 ty45 zo45 ty46 zo46 ty56 zo56 ty59 zo59 ty64 zo64 ty66 zo66 ty74 zo74 ty82 zo82 ty83 zo83 ty88 zo88 ty92 zo92 ty95 zo95 ty96 zo96 ty97 zo97 ty98 zo98 ty99 zo99 amr_ als_ al2_ al4_ alu_ alk_ ams_ amn_ alh_ amc_ amu_ alj_ alx_ ama_ amt_ aml_ ali_ ale_ al3_ al9_ amg_ alr_ al5_ ame_ amb_ amj_ alc_ amq_ alt_ alo_ ala_ alz_ amv_ al7_ aln_ ami_
end
end Go.Proofs.YtcigkafioinfoaaGreatDoor
