/- The program as an environment of the tree logic: what its package variables hold. Conditions: none. -/
import Derived.Test.YtcigkafioinfoaaGreatDoorKb
import Derived.Test.YtcigkafioinfoaaGreatDoorProg
import Derived.Test.YtcigkafioinfoaaGreatDoorKc
import Derived.Lib.LaidTab
set_option linter.unusedVariables false
set_option linter.unusedSimpArgs false
namespace Go.Proofs.YtcigkafioinfoaaGreatDoor
section
open Go.RowKit
def ownW : List Str := [[108, 101, 116], [115, 97, 121], [119, 104, 101, 110], [97, 115], [112, 114, 105, 110, 116], [105, 102], [105, 110, 116], [98, 111, 111, 108]]
def c1_ (l : List Str) : List (List V) := l.map fun s => [.s s]
theorem ae_ (l : List Str) : (c1_ l).length = l.length := by simp [c1_]
theorem n8_ {l : List Str} {k : Nat} (h : k < l.length) : (c1_ l).getD k [] = [.s (l.getD k [])] := by
 simp [c1_, T8_, T6_ h]
theorem ac_ : ∀ l : List Str, cz_ (c1_ l) = true
 | [] => rfl
 | s :: l => by simp only [c1_, List.map_cons, cz_, dp_, V.pure, Bool.true_and]; exact ac_ l
structure Gl (B : Nat) (w : World) : Prop where
 tab : Lib.TabIs Tryz.prog w "internal/strconv.uint64pow10" .u64 Lib.pow10Tab
 syn : ∃ tp p, w.var? Tryz.prog "strconv.ErrSyntax" = some #[.iface tp p]
 rng : ∃ tp p, w.var? Tryz.prog "strconv.ErrRange" = some #[.iface tp p]
 maxl : ∃ m : Int, w.cell? ⟨1, 0, none⟩ = some (.int .i64 m)
 many : 6 < B ∧ 4 < B ∧ 5 < B ∧ 1 < B
theorem ll_ {P : Program} {B g : Nat} {W W' : World} {n : String} {cs : Array Value} (h : ∀ g, g < B → W'.heap[g]? = W.heap[g]?) (hg : P.globalNamed n = some g) (hgB : g < B) (hv : W.var? P n = some cs) : W'.var? P n = some cs := by
 unfold World.var? at hv ⊢
 simp only [hg, Option.bind_some] at hv ⊢
 rw [h g hgB]
 exact hv
theorem gTab : Tryz.prog.globalNamed "internal/strconv.uint64pow10" = some 6 := by kernel_rfl
theorem gSyn : Tryz.prog.globalNamed "strconv.ErrSyntax" = some 4 := by kernel_rfl
theorem gRng : Tryz.prog.globalNamed "strconv.ErrRange" = some 5 := by kernel_rfl
theorem Gl.same {B : Nat} {w w' : World} (h : Gl B w) (hb : ∀ g, g < B → w'.heap[g]? = w.heap[g]?) : Gl B w' := by
 obtain ⟨m1, m2, m3, m4⟩ := h.many
 obtain ⟨m, hm⟩ := h.maxl
 obtain ⟨t1, p1, s1⟩ := h.syn
 obtain ⟨t2, p2, s2⟩ := h.rng
 exact ⟨ll_ hb gTab m1 h.tab, ⟨t1, p1, ll_ hb gSyn m2 s1⟩, ⟨t2, p2, ll_ hb gRng m3 s2⟩, ⟨m, by unfold World.cell? at hm ⊢; rw [hb _ m4]; exact hm⟩, h.many⟩
noncomputable def En : Env := ⟨Tryz.prog, fun g => if g = 0 then some [.sl false (c1_ ownW)] else none, Gl, fun _ _ _ h hb => h.same hb⟩
theorem ag7_ : En.G 0 = some [.sl false (c1_ ownW)] := rfl
theorem enM : En.P.follows .mixedOrders = true := by kernel_rfl
end
section
theorem ty2 : cf_ En.P 2 = some ⟨TK.int IntKind.i64, 1, V.i IntKind.i64 (0)⟩ := by kernel_rfl
theorem zo2 : b8_ En.P 2 = V.i IntKind.i64 (0) := by kernel_rfl
theorem ty3 : cf_ En.P 3 = some ⟨TK.int IntKind.i64, 1, V.i IntKind.i64 (0)⟩ := by kernel_rfl
theorem zo3 : b8_ En.P 3 = V.i IntKind.i64 (0) := by kernel_rfl
theorem ty4 : cf_ En.P 4 = some ⟨TK.bool, 1, V.b false⟩ := by kernel_rfl
theorem zo4 : b8_ En.P 4 = V.b false := by kernel_rfl
theorem ty5 : cf_ En.P 5 = some ⟨TK.int IntKind.u8, 1, V.i IntKind.u8 (0)⟩ := by kernel_rfl
theorem zo5 : b8_ En.P 5 = V.i IntKind.u8 (0) := by kernel_rfl
theorem ty6 : cf_ En.P 6 = some ⟨TK.int IntKind.u8, 1, V.i IntKind.u8 (0)⟩ := by kernel_rfl
theorem zo6 : b8_ En.P 6 = V.i IntKind.u8 (0) := by kernel_rfl
theorem ty7 : cf_ En.P 7 = some ⟨TK.st [(0, 1, false), (1, 1, false), (2, 1, false), (3, 1, false)], 4, V.ag [V.i IntKind.i64 (0), V.i IntKind.i64 (0), V.b false, V.i IntKind.u8 (0)]⟩ := by kernel_rfl
theorem zo7 : b8_ En.P 7 = V.ag [V.i IntKind.i64 (0), V.i IntKind.i64 (0), V.b false, V.i IntKind.u8 (0)] := by kernel_rfl
theorem ty8 : cf_ En.P 8 = some ⟨TK.st [(0, 1, false), (1, 1, false), (2, 1, false), (3, 1, false)], 4, V.ag [V.i IntKind.i64 (0), V.i IntKind.i64 (0), V.b false, V.i IntKind.u8 (0)]⟩ := by kernel_rfl
theorem zo8 : b8_ En.P 8 = V.ag [V.i IntKind.i64 (0), V.i IntKind.i64 (0), V.b false, V.i IntKind.u8 (0)] := by kernel_rfl
theorem ty9 : cf_ En.P 9 = some ⟨TK.str, 1, V.s []⟩ := by kernel_rfl
theorem zo9 : b8_ En.P 9 = V.s [] := by kernel_rfl
theorem ty10 : cf_ En.P 10 = some ⟨TK.str, 1, V.s []⟩ := by kernel_rfl
theorem zo10 : b8_ En.P 10 = V.s [] := by kernel_rfl
theorem ty11 : cf_ En.P 11 = some ⟨TK.str, 1, V.s []⟩ := by kernel_rfl
theorem zo11 : b8_ En.P 11 = V.s [] := by kernel_rfl
theorem ty12 : cf_ En.P 12 = some ⟨TK.int IntKind.u64, 1, V.i IntKind.u64 (0)⟩ := by kernel_rfl
theorem zo12 : b8_ En.P 12 = V.i IntKind.u64 (0) := by kernel_rfl
theorem ty13 : cf_ En.P 13 = some ⟨TK.st [(0, 1, false), (1, 1, false)], 2, V.ag [V.s [], V.i IntKind.u64 (0)]⟩ := by kernel_rfl
theorem zo13 : b8_ En.P 13 = V.ag [V.s [], V.i IntKind.u64 (0)] := by kernel_rfl
theorem ty14 : cf_ En.P 14 = some ⟨TK.st [(0, 1, false), (1, 1, false)], 2, V.ag [V.s [], V.i IntKind.u64 (0)]⟩ := by kernel_rfl
theorem zo14 : b8_ En.P 14 = V.ag [V.s [], V.i IntKind.u64 (0)] := by kernel_rfl
theorem ty15 : cf_ En.P 15 = some ⟨TK.other, 1, V.np⟩ := by kernel_rfl
theorem zo15 : b8_ En.P 15 = V.np := by kernel_rfl
theorem ty16 : cf_ En.P 16 = some ⟨TK.other, 1, V.np⟩ := by kernel_rfl
theorem zo16 : b8_ En.P 16 = V.np := by kernel_rfl
theorem ty17 : cf_ En.P 17 = some ⟨TK.other, 1, V.np⟩ := by kernel_rfl
theorem zo17 : b8_ En.P 17 = V.np := by kernel_rfl
theorem ty18 : cf_ En.P 18 = some ⟨TK.st [(0, 1, false)], 1, V.ag [V.np]⟩ := by kernel_rfl
theorem zo18 : b8_ En.P 18 = V.ag [V.np] := by kernel_rfl
theorem ty19 : cf_ En.P 19 = some ⟨TK.st [(0, 1, false)], 1, V.ag [V.np]⟩ := by kernel_rfl
theorem zo19 : b8_ En.P 19 = V.ag [V.np] := by kernel_rfl
theorem ty21 : cf_ En.P 21 = some ⟨TK.int IntKind.i32, 1, V.i IntKind.i32 (0)⟩ := by kernel_rfl
theorem zo21 : b8_ En.P 21 = V.i IntKind.i32 (0) := by kernel_rfl
theorem ty22 : cf_ En.P 22 = some ⟨TK.sl 5 1 1 [V.i IntKind.u8 (0)], 1, V.sl true []⟩ := by kernel_rfl
theorem zo22 : b8_ En.P 22 = V.sl true [] := by kernel_rfl
theorem ty23 : cf_ En.P 23 = some ⟨TK.sl 39 4 64 [V.s [], V.b false, V.s [], V.sl true []], 1, V.sl true []⟩ := by kernel_rfl
theorem zo23 : b8_ En.P 23 = V.sl true [] := by kernel_rfl
theorem ty27 : cf_ En.P 27 = some ⟨TK.sl 3 1 8 [V.i IntKind.i64 (0)], 1, V.sl true []⟩ := by kernel_rfl
theorem zo27 : b8_ En.P 27 = V.sl true [] := by kernel_rfl
theorem ty30 : cf_ En.P 30 = some ⟨TK.sl 35 11 152 [V.i IntKind.i64 (0), V.s [], V.s [], V.i IntKind.i64 (0), V.i IntKind.i64 (0), V.s [], V.sl true [], V.i IntKind.i64 (0), V.i IntKind.i64 (0), V.s [], V.sl true []], 1, V.sl true []⟩ := by kernel_rfl
theorem zo30 : b8_ En.P 30 = V.sl true [] := by kernel_rfl
theorem ty31 : cf_ En.P 31 = some ⟨TK.sl 33 4 56 [V.i IntKind.i64 (0), V.i IntKind.i64 (0), V.s [], V.sl true []], 1, V.sl true []⟩ := by kernel_rfl
theorem zo31 : b8_ En.P 31 = V.sl true [] := by kernel_rfl
theorem ty32 : cf_ En.P 32 = some ⟨TK.st [(0, 1, false), (1, 1, false), (2, 1, false), (3, 1, false)], 4, V.ag [V.i IntKind.i64 (0), V.i IntKind.i64 (0), V.s [], V.sl true []]⟩ := by kernel_rfl
theorem zo32 : b8_ En.P 32 = V.ag [V.i IntKind.i64 (0), V.i IntKind.i64 (0), V.s [], V.sl true []] := by kernel_rfl
theorem ty33 : cf_ En.P 33 = some ⟨TK.st [(0, 1, false), (1, 1, false), (2, 1, false), (3, 1, false)], 4, V.ag [V.i IntKind.i64 (0), V.i IntKind.i64 (0), V.s [], V.sl true []]⟩ := by kernel_rfl
theorem zo33 : b8_ En.P 33 = V.ag [V.i IntKind.i64 (0), V.i IntKind.i64 (0), V.s [], V.sl true []] := by kernel_rfl
theorem ty34 : cf_ En.P 34 = some ⟨TK.st [(0, 1, false), (1, 1, false), (2, 1, false), (3, 4, true), (7, 4, true)], 11, V.ag [V.i IntKind.i64 (0), V.s [], V.s [], V.i IntKind.i64 (0), V.i IntKind.i64 (0), V.s [], V.sl true [], V.i IntKind.i64 (0), V.i IntKind.i64 (0), V.s [], V.sl true []]⟩ := by kernel_rfl
theorem zo34 : b8_ En.P 34 = V.ag [V.i IntKind.i64 (0), V.s [], V.s [], V.i IntKind.i64 (0), V.i IntKind.i64 (0), V.s [], V.sl true [], V.i IntKind.i64 (0), V.i IntKind.i64 (0), V.s [], V.sl true []] := by kernel_rfl
theorem ty35 : cf_ En.P 35 = some ⟨TK.st [(0, 1, false), (1, 1, false), (2, 1, false), (3, 4, true), (7, 4, true)], 11, V.ag [V.i IntKind.i64 (0), V.s [], V.s [], V.i IntKind.i64 (0), V.i IntKind.i64 (0), V.s [], V.sl true [], V.i IntKind.i64 (0), V.i IntKind.i64 (0), V.s [], V.sl true []]⟩ := by kernel_rfl
theorem zo35 : b8_ En.P 35 = V.ag [V.i IntKind.i64 (0), V.s [], V.s [], V.i IntKind.i64 (0), V.i IntKind.i64 (0), V.s [], V.sl true [], V.i IntKind.i64 (0), V.i IntKind.i64 (0), V.s [], V.sl true []] := by kernel_rfl
theorem ty38 : cf_ En.P 38 = some ⟨TK.st [(0, 1, false), (1, 1, false), (2, 1, false), (3, 1, false)], 4, V.ag [V.s [], V.b false, V.s [], V.sl true []]⟩ := by kernel_rfl
theorem zo38 : b8_ En.P 38 = V.ag [V.s [], V.b false, V.s [], V.sl true []] := by kernel_rfl
theorem ty39 : cf_ En.P 39 = some ⟨TK.st [(0, 1, false), (1, 1, false), (2, 1, false), (3, 1, false)], 4, V.ag [V.s [], V.b false, V.s [], V.sl true []]⟩ := by kernel_rfl
theorem zo39 : b8_ En.P 39 = V.ag [V.s [], V.b false, V.s [], V.sl true []] := by kernel_rfl
theorem ty42 : cf_ En.P 42 = some ⟨TK.sl 44 4 56 [V.i IntKind.i64 (0), V.i IntKind.i64 (0), V.s [], V.sl true []], 1, V.sl true []⟩ := by kernel_rfl
theorem zo42 : b8_ En.P 42 = V.sl true [] := by kernel_rfl
theorem ty43 : cf_ En.P 43 = some ⟨TK.st [(0, 1, false), (1, 1, false), (2, 1, false), (3, 1, false)], 4, V.ag [V.i IntKind.i64 (0), V.i IntKind.i64 (0), V.s [], V.sl true []]⟩ := by kernel_rfl
theorem zo43 : b8_ En.P 43 = V.ag [V.i IntKind.i64 (0), V.i IntKind.i64 (0), V.s [], V.sl true []] := by kernel_rfl
theorem ty44 : cf_ En.P 44 = some ⟨TK.st [(0, 1, false), (1, 1, false), (2, 1, false), (3, 1, false)], 4, V.ag [V.i IntKind.i64 (0), V.i IntKind.i64 (0), V.s [], V.sl true []]⟩ := by kernel_rfl
theorem zo44 : b8_ En.P 44 = V.ag [V.i IntKind.i64 (0), V.i IntKind.i64 (0), V.s [], V.sl true []] := by kernel_rfl
theorem ty45 : cf_ En.P 45 = some ⟨TK.st [(0, 1, false), (1, 1, false), (2, 1, false), (3, 4, true), (7, 4, true)], 11, V.ag [V.i IntKind.i64 (0), V.s [], V.s [], V.i IntKind.i64 (0), V.i IntKind.i64 (0), V.s [], V.sl true [], V.i IntKind.i64 (0), V.i IntKind.i64 (0), V.s [], V.sl true []]⟩ := by kernel_rfl
theorem zo45 : b8_ En.P 45 = V.ag [V.i IntKind.i64 (0), V.s [], V.s [], V.i IntKind.i64 (0), V.i IntKind.i64 (0), V.s [], V.sl true [], V.i IntKind.i64 (0), V.i IntKind.i64 (0), V.s [], V.sl true []] := by kernel_rfl
theorem ty46 : cf_ En.P 46 = some ⟨TK.st [(0, 1, false), (1, 1, false), (2, 1, false), (3, 4, true), (7, 4, true)], 11, V.ag [V.i IntKind.i64 (0), V.s [], V.s [], V.i IntKind.i64 (0), V.i IntKind.i64 (0), V.s [], V.sl true [], V.i IntKind.i64 (0), V.i IntKind.i64 (0), V.s [], V.sl true []]⟩ := by kernel_rfl
theorem zo46 : b8_ En.P 46 = V.ag [V.i IntKind.i64 (0), V.s [], V.s [], V.i IntKind.i64 (0), V.i IntKind.i64 (0), V.s [], V.sl true [], V.i IntKind.i64 (0), V.i IntKind.i64 (0), V.s [], V.sl true []] := by kernel_rfl
theorem ty56 : cf_ En.P 56 = some ⟨TK.sl 137 10 136 [V.i IntKind.i64 (0), V.s [], V.i IntKind.i64 (0), V.i IntKind.i64 (0), V.s [], V.sl true [], V.i IntKind.i64 (0), V.i IntKind.i64 (0), V.s [], V.sl true []], 1, V.sl true []⟩ := by kernel_rfl
theorem zo56 : b8_ En.P 56 = V.sl true [] := by kernel_rfl
theorem ty59 : cf_ En.P 59 = some ⟨TK.sl 83 10 136 [V.i IntKind.i64 (0), V.s [], V.i IntKind.i64 (0), V.i IntKind.i64 (0), V.s [], V.sl true [], V.i IntKind.i64 (0), V.i IntKind.i64 (0), V.s [], V.sl true []], 1, V.sl true []⟩ := by kernel_rfl
theorem zo59 : b8_ En.P 59 = V.sl true [] := by kernel_rfl
theorem ty64 : cf_ En.P 64 = some ⟨TK.sl 46 11 152 [V.i IntKind.i64 (0), V.s [], V.s [], V.i IntKind.i64 (0), V.i IntKind.i64 (0), V.s [], V.sl true [], V.i IntKind.i64 (0), V.i IntKind.i64 (0), V.s [], V.sl true []], 1, V.sl true []⟩ := by kernel_rfl
theorem zo64 : b8_ En.P 64 = V.sl true [] := by kernel_rfl
theorem ty66 : cf_ En.P 66 = some ⟨TK.sl 98 4 32 [V.i IntKind.i64 (0), V.i IntKind.i64 (0), V.i IntKind.i64 (0), V.i IntKind.i64 (0)], 1, V.sl true []⟩ := by kernel_rfl
theorem zo66 : b8_ En.P 66 = V.sl true [] := by kernel_rfl
theorem ty74 : cf_ En.P 74 = some ⟨TK.sl 150 4 64 [V.s [], V.b false, V.s [], V.sl true []], 1, V.sl true []⟩ := by kernel_rfl
theorem zo74 : b8_ En.P 74 = V.sl true [] := by kernel_rfl
theorem ty82 : cf_ En.P 82 = some ⟨TK.st [(0, 1, false), (1, 1, false), (2, 4, true), (6, 4, true)], 10, V.ag [V.i IntKind.i64 (0), V.s [], V.i IntKind.i64 (0), V.i IntKind.i64 (0), V.s [], V.sl true [], V.i IntKind.i64 (0), V.i IntKind.i64 (0), V.s [], V.sl true []]⟩ := by kernel_rfl
theorem zo82 : b8_ En.P 82 = V.ag [V.i IntKind.i64 (0), V.s [], V.i IntKind.i64 (0), V.i IntKind.i64 (0), V.s [], V.sl true [], V.i IntKind.i64 (0), V.i IntKind.i64 (0), V.s [], V.sl true []] := by kernel_rfl
theorem ty83 : cf_ En.P 83 = some ⟨TK.st [(0, 1, false), (1, 1, false), (2, 4, true), (6, 4, true)], 10, V.ag [V.i IntKind.i64 (0), V.s [], V.i IntKind.i64 (0), V.i IntKind.i64 (0), V.s [], V.sl true [], V.i IntKind.i64 (0), V.i IntKind.i64 (0), V.s [], V.sl true []]⟩ := by kernel_rfl
theorem zo83 : b8_ En.P 83 = V.ag [V.i IntKind.i64 (0), V.s [], V.i IntKind.i64 (0), V.i IntKind.i64 (0), V.s [], V.sl true [], V.i IntKind.i64 (0), V.i IntKind.i64 (0), V.s [], V.sl true []] := by kernel_rfl
theorem ty88 : cf_ En.P 88 = some ⟨TK.sl 9 1 16 [V.s []], 1, V.sl true []⟩ := by kernel_rfl
theorem zo88 : b8_ En.P 88 = V.sl true [] := by kernel_rfl
theorem ty92 : cf_ En.P 92 = some ⟨TK.sl 100 3 32 [V.i IntKind.i64 (0), V.s [], V.i IntKind.i64 (0)], 1, V.sl true []⟩ := by kernel_rfl
theorem zo92 : b8_ En.P 92 = V.sl true [] := by kernel_rfl
theorem ty95 : cf_ En.P 95 = some ⟨TK.st [(0, 1, false), (1, 1, false)], 2, V.ag [V.i IntKind.i64 (0), V.i IntKind.i64 (0)]⟩ := by kernel_rfl
theorem zo95 : b8_ En.P 95 = V.ag [V.i IntKind.i64 (0), V.i IntKind.i64 (0)] := by kernel_rfl
theorem ty96 : cf_ En.P 96 = some ⟨TK.st [(0, 1, false), (1, 1, false)], 2, V.ag [V.i IntKind.i64 (0), V.i IntKind.i64 (0)]⟩ := by kernel_rfl
theorem zo96 : b8_ En.P 96 = V.ag [V.i IntKind.i64 (0), V.i IntKind.i64 (0)] := by kernel_rfl
theorem ty97 : cf_ En.P 97 = some ⟨TK.st [(0, 2, true), (2, 2, true)], 4, V.ag [V.i IntKind.i64 (0), V.i IntKind.i64 (0), V.i IntKind.i64 (0), V.i IntKind.i64 (0)]⟩ := by kernel_rfl
theorem zo97 : b8_ En.P 97 = V.ag [V.i IntKind.i64 (0), V.i IntKind.i64 (0), V.i IntKind.i64 (0), V.i IntKind.i64 (0)] := by kernel_rfl
theorem ty98 : cf_ En.P 98 = some ⟨TK.st [(0, 2, true), (2, 2, true)], 4, V.ag [V.i IntKind.i64 (0), V.i IntKind.i64 (0), V.i IntKind.i64 (0), V.i IntKind.i64 (0)]⟩ := by kernel_rfl
theorem zo98 : b8_ En.P 98 = V.ag [V.i IntKind.i64 (0), V.i IntKind.i64 (0), V.i IntKind.i64 (0), V.i IntKind.i64 (0)] := by kernel_rfl
theorem ty99 : cf_ En.P 99 = some ⟨TK.st [(0, 1, false), (1, 1, false), (2, 1, false)], 3, V.ag [V.i IntKind.i64 (0), V.s [], V.i IntKind.i64 (0)]⟩ := by kernel_rfl
theorem zo99 : b8_ En.P 99 = V.ag [V.i IntKind.i64 (0), V.s [], V.i IntKind.i64 (0)] := by kernel_rfl
theorem ah0_ : cf_ En.P 100 = some ⟨TK.st [(0, 1, false), (1, 1, false), (2, 1, false)], 3, V.ag [V.i IntKind.i64 (0), V.s [], V.i IntKind.i64 (0)]⟩ := by kernel_rfl
theorem ahy_ : b8_ En.P 100 = V.ag [V.i IntKind.i64 (0), V.s [], V.i IntKind.i64 (0)] := by kernel_rfl
theorem ahf_ : cf_ En.P 103 = some ⟨TK.sl 96 2 16 [V.i IntKind.i64 (0), V.i IntKind.i64 (0)], 1, V.sl true []⟩ := by kernel_rfl
theorem ail_ : b8_ En.P 103 = V.sl true [] := by kernel_rfl
theorem ai1_ : cf_ En.P 106 = some ⟨TK.other, 1, V.np⟩ := by kernel_rfl
theorem ait_ : b8_ En.P 106 = V.np := by kernel_rfl
theorem ahk_ : cf_ En.P 126 = some ⟨TK.sl 131 2 24 [V.s [], V.i IntKind.i64 (0)], 1, V.sl true []⟩ := by kernel_rfl
theorem aiu_ : b8_ En.P 126 = V.sl true [] := by kernel_rfl
theorem ahs_ : cf_ En.P 130 = some ⟨TK.st [(0, 1, false), (1, 1, false)], 2, V.ag [V.s [], V.i IntKind.i64 (0)]⟩ := by kernel_rfl
theorem aiv_ : b8_ En.P 130 = V.ag [V.s [], V.i IntKind.i64 (0)] := by kernel_rfl
theorem aip_ : cf_ En.P 131 = some ⟨TK.st [(0, 1, false), (1, 1, false)], 2, V.ag [V.s [], V.i IntKind.i64 (0)]⟩ := by kernel_rfl
theorem aih_ : b8_ En.P 131 = V.ag [V.s [], V.i IntKind.i64 (0)] := by kernel_rfl
theorem ahm_ : cf_ En.P 136 = some ⟨TK.st [(0, 1, false), (1, 1, false), (2, 4, true), (6, 4, true)], 10, V.ag [V.i IntKind.i64 (0), V.s [], V.i IntKind.i64 (0), V.i IntKind.i64 (0), V.s [], V.sl true [], V.i IntKind.i64 (0), V.i IntKind.i64 (0), V.s [], V.sl true []]⟩ := by kernel_rfl
theorem aij_ : b8_ En.P 136 = V.ag [V.i IntKind.i64 (0), V.s [], V.i IntKind.i64 (0), V.i IntKind.i64 (0), V.s [], V.sl true [], V.i IntKind.i64 (0), V.i IntKind.i64 (0), V.s [], V.sl true []] := by kernel_rfl
theorem ahx_ : cf_ En.P 137 = some ⟨TK.st [(0, 1, false), (1, 1, false), (2, 4, true), (6, 4, true)], 10, V.ag [V.i IntKind.i64 (0), V.s [], V.i IntKind.i64 (0), V.i IntKind.i64 (0), V.s [], V.sl true [], V.i IntKind.i64 (0), V.i IntKind.i64 (0), V.s [], V.sl true []]⟩ := by kernel_rfl
theorem ahz_ : b8_ En.P 137 = V.ag [V.i IntKind.i64 (0), V.s [], V.i IntKind.i64 (0), V.i IntKind.i64 (0), V.s [], V.sl true [], V.i IntKind.i64 (0), V.i IntKind.i64 (0), V.s [], V.sl true []] := by kernel_rfl
theorem air_ : cf_ En.P 150 = some ⟨TK.st [(0, 1, false), (1, 1, false), (2, 1, false), (3, 1, false)], 4, V.ag [V.s [], V.b false, V.s [], V.sl true []]⟩ := by kernel_rfl
theorem ahj_ : b8_ En.P 150 = V.ag [V.s [], V.b false, V.s [], V.sl true []] := by kernel_rfl
theorem aiy_ : cf_ En.P 164 = some ⟨TK.st [(0, 1, false), (1, 1, false)], 2, V.ag [V.sl true [], V.i IntKind.i64 (0)]⟩ := by kernel_rfl
theorem ahp_ : b8_ En.P 164 = V.ag [V.sl true [], V.i IntKind.i64 (0)] := by kernel_rfl
theorem aho_ : cf_ En.P 165 = some ⟨TK.st [(0, 1, false), (1, 1, false)], 2, V.ag [V.sl true [], V.i IntKind.i64 (0)]⟩ := by kernel_rfl
theorem ah7_ : b8_ En.P 165 = V.ag [V.sl true [], V.i IntKind.i64 (0)] := by kernel_rfl
theorem ah6_ : cf_ En.P 181 = some ⟨TK.sl 185 2 24 [V.s [], V.i IntKind.i64 (0)], 1, V.sl true []⟩ := by kernel_rfl
theorem ah1_ : b8_ En.P 181 = V.sl true [] := by kernel_rfl
theorem ahn_ : cf_ En.P 184 = some ⟨TK.st [(0, 1, false), (1, 1, false)], 2, V.ag [V.s [], V.i IntKind.i64 (0)]⟩ := by kernel_rfl
theorem ahq_ : b8_ En.P 184 = V.ag [V.s [], V.i IntKind.i64 (0)] := by kernel_rfl
theorem aiz_ : cf_ En.P 185 = some ⟨TK.st [(0, 1, false), (1, 1, false)], 2, V.ag [V.s [], V.i IntKind.i64 (0)]⟩ := by kernel_rfl
theorem ah2_ : b8_ En.P 185 = V.ag [V.s [], V.i IntKind.i64 (0)] := by kernel_rfl
theorem aib_ : cf_ En.P 205 = some ⟨TK.other, 1, V.np⟩ := by kernel_rfl
theorem ah8_ : b8_ En.P 205 = V.np := by kernel_rfl
theorem ah3_ : cf_ En.P 206 = some ⟨TK.st [(0, 1, false), (1, 1, false), (2, 1, false)], 3, V.ag [V.sl true [], V.b false, V.i IntKind.i64 (0)]⟩ := by kernel_rfl
theorem ahu_ : b8_ En.P 206 = V.ag [V.sl true [], V.b false, V.i IntKind.i64 (0)] := by kernel_rfl
theorem ai0_ : cf_ En.P 207 = some ⟨TK.st [(0, 1, false), (1, 1, false), (2, 1, false)], 3, V.ag [V.sl true [], V.b false, V.i IntKind.i64 (0)]⟩ := by kernel_rfl
theorem aiw_ : b8_ En.P 207 = V.ag [V.sl true [], V.b false, V.i IntKind.i64 (0)] := by kernel_rfl
theorem ah5_ : cf_ En.P 213 = some ⟨TK.other, 1, V.np⟩ := by kernel_rfl
theorem aii_ : b8_ En.P 213 = V.np := by kernel_rfl
end
section
mutual
def eC : E → List V
 | .mk k n s kids => [.i .i64 k, .i .i64 n, .s s, .sl false (eR kids)]
def eR : List E → List (List V)
 | [] => []
 | e :: r => eC e :: eR r
end
theorem bm_ (e : E) : eC e = [.i .i64 e.kind, .i .i64 e.n, .s e.s, .sl false (eR e.kids)] := by cases e; simp only [eC, E.kind, E.n, E.s, E.kids]
theorem j3_ : ∀ l : List E, eR l = l.map eC
 | [] => by simp only [eR, List.map_nil]
 | e :: r => by simp only [eR, List.map_cons, j3_ r]
theorem fl_ (l : List E) : (eR l).length = l.length := by rw [j3_, List.length_map]
theorem c7_ {l : List E} {k : Nat} (h : k < l.length) : (eR l).getD k [] = eC (l.getD k E0) := by
 rw [j3_]; simp [T8_, T6_ h]
mutual
theorem aet_ : ∀ e : E, dp_ (eC e) = true
 | .mk k n s kids => by simp only [eC, dp_, V.pure, f5_ kids, Bool.and_self]
theorem f5_ : ∀ l : List E, cz_ (eR l) = true
 | [] => by simp only [eR, cz_]
 | e :: r => by simp only [eR, cz_, aet_ e, f5_ r, Bool.and_self]
end
def byR (b : Str) : List (List V) := b.map fun c => [.i .u8 c.toNat]
theorem aed_ (b : Str) : (byR b).length = b.length := by simp [byR]
theorem t5_ : ∀ b : Str, cz_ (byR b) = true
 | [] => rfl
 | c :: b => by simp only [byR, List.map_cons, cz_, dp_, V.pure, Bool.true_and]; exact t5_ b
theorem byR_get {b : Str} {k : Nat} (h : k < b.length) : (byR b).getD k [] = [.i .u8 (b.getD k 0).toNat] := by
 simp [byR, T8_, T6_ h]
theorem aam_ (b : Str) (k : Nat) : (byR b).take k = byR (b.take k) := by simp [byR, List.map_take]
theorem aie_ (a b c : Nat) (d : List V) : (∃ el z y zc, some (TK.sl a b c d) = some (TK.sl el z y zc)) = True := eq_true ⟨a, b, c, d, rfl⟩
end
section
attribute [go_sem] lxs zn_ gE gO evO obO aas_ zq_ St.pv St.ev peel ed_ pcB Op.operands Call.operands V.ofConst V.ofConst1 nm af0_ afx_ pw_ ab3_ af6_ idxV idxC maxV minV k1_ hc_ rm_ uk_ TK.agg afq_ vg_ tc_ wo_ ur_ wt_ pz_ vy_ q0_ rv_ aunV aunC lo_ ldV ldC da_ stV okC stC zg_ fldC z2_ ixaC mo_ iy_ f6_ isC mu_ extV extC x1_ lenC yz_ slcC bndC ioV mv_ appC va_ mkE V.one V.cells isB ha_ fp_ p3_ as_ e8_ vf_ wrL kd_ eh_ g4_ rnB rn rns rnr br_ eg_ qw_ dw_ zl_ aa4_ aft_ af5_ afs_ yc_ lw_ w2_ nilO nilV pk_ yn_ act_ List.head?_cons List.head?_nil l9_ n0_ sg_ lend les leV ler fk_ ep_ bh_ bsO bsE cvO cvV gi_ frz hd_ ki_ frzB l2_ bn_ bt_ dp_ cz_ V.pure cls clr V.cl ml_ V.flat us List.getD_cons_zero List.getD_cons_succ List.getD_nil List.set_cons_zero List.set_cons_succ List.set_nil List.getElem?_cons_zero List.getElem?_cons_succ List.getElem?_nil Option.map_some Option.map_none Option.bind_some Option.bind_none Option.getD_some Option.getD_none Option.isSome_some Option.isNone_none Option.isNone_some Option.toArray_some Option.toArray_none List.toList_toArray List.map_cons List.map_nil List.append_nil List.nil_append List.cons_append List.all_cons List.all_nil List.all_append List.isEmpty_nil List.isEmpty_cons List.reverse_cons List.reverse_nil List.drop_zero List.drop_succ_cons List.drop_nil List.take_zero List.take_succ_cons List.take_nil T7_ List.length_nil List.zip_cons_cons List.zip_nil_left List.zip_nil_right List.flatMap_cons List.flatMap_nil List.replicate_succ List.replicate_zero Array.toList_append List.getElem?_toArray Array.getD_eq_getD_getElem? Bool.true_and Bool.and_true Bool.false_and Bool.and_false Bool.not_true Bool.not_false Bool.and_self beq_self_eq_true and_true true_and and_self cond_true cond_false if_true if_false ite_true ite_false decide_true decide_false Bool.decide_eq_true true_implies implies_true imp_self Nat.zero_add Nat.le_refl Nat.add_zero Nat.zero_mul Int.toNat_zero List.contains_nil List.contains_cons Bool.or_false Bool.or_true Bool.false_or Bool.true_or T9_ Ta_ eq_self List.append_toArray Bool.false_eq_true Array.size_empty List.push_toArray List.size_toArray Array.toList_map Array.toList_empty Bool.cond_false_right Bool.cond_true_left beq_true beq_false Int.toNat_natCast ae_ ac_ gv_ dy_ ko_ lf_ bm_ fl_ f5_ ag7_ aed_ t5_ aam_ aie_ ifO maxO aa5_ yi_ aak_ ac3_ ag3_ aeb_ ahd_ ty2 zo2 ty3 zo3 ty4 zo4 ty5 zo5 ty6 zo6 ty7 zo7 ty8 zo8 ty9 zo9 ty10 zo10 ty11 zo11 ty12 zo12 ty13 zo13 ty14 zo14 ty15 zo15 ty16 zo16 ty17 zo17 ty18 zo18 ty19 zo19 ty21 zo21 ty22 zo22 ty23 zo23 ty27 zo27 ty30 zo30 ty31 zo31 ty32 zo32 ty33 zo33 ty34 zo34 ty35 zo35 ty38 zo38 ty39 zo39 ty42 zo42 ty43 zo43 ty44 zo44 ty45 zo45 ty46 zo46 ty56 zo56 ty59 zo59 ty64 zo64 ty66 zo66 ty74 zo74 ty82 zo82 ty83 zo83 ty88 zo88 ty92 zo92 ty95 zo95 ty96 zo96 ty97 zo97 ty98 zo98 ty99 zo99 ah0_ ahy_ ahf_ ail_ ai1_ ait_ ahk_ aiu_ ahs_ aiv_ aip_ aih_ ahm_ aij_ ahx_ ahz_ air_ ahj_ aiy_ ahp_ aho_ ah7_ ah6_ ah1_ ahn_ ahq_ aiz_ ah2_ aib_ ah8_ ah3_ ahu_ ai0_ aiw_ ah5_ aii_
end
end Go.Proofs.YtcigkafioinfoaaGreatDoor
