/- The program as an environment of the tree logic: what its package variables hold. Conditions: none. -/
import Derived.Test.YtilppnadkfgnfaaGreatDoorKb
import Derived.Test.YtilppnadkfgnfaaGreatDoorProg
import Derived.Test.YtilppnadkfgnfaaGreatDoorKc
import Derived.Lib.LaidTab
set_option linter.unusedVariables false
set_option linter.unusedSimpArgs false
namespace Go.Proofs.YtilppnadkfgnfaaGreatDoor
section
open Go.RowKit
def ownW : List Str := [[108, 101, 116], [115, 97, 121], [119, 104, 101, 110], [97, 115], [112, 114, 105, 110, 116], [105, 102], [105, 110, 116], [98, 111, 111, 108]]
def bn_ (l : List Str) : List (List V) := l.map fun s => [.s s]
theorem ab_ (l : List Str) : (bn_ l).length = l.length := by simp [bn_]
theorem b6_ {l : List Str} {k : Nat} (h : k < l.length) : (bn_ l).getD k [] = [.s (l.getD k [])] := by
 simp [bn_, T8_, T6_ h]
theorem aa_ : ∀ l : List Str, b4_ (bn_ l) = true
 | [] => rfl
 | s :: l => by simp only [bn_, List.map_cons, b4_, cf_, V.pure, Bool.true_and]; exact aa_ l
structure Gl (B : Nat) (w : World) : Prop where
 tab : Lib.TabIs Tryz.prog w "internal/strconv.uint64pow10" .u64 Lib.pow10Tab
 syn : ∃ tp p, w.var? Tryz.prog "strconv.ErrSyntax" = some #[.iface tp p]
 rng : ∃ tp p, w.var? Tryz.prog "strconv.ErrRange" = some #[.iface tp p]
 maxl : ∃ m : Int, w.cell? ⟨1, 0, none⟩ = some (.int .i64 m)
 many : 6 < B ∧ 4 < B ∧ 5 < B ∧ 1 < B
theorem m1_ {P : Program} {B g : Nat} {W W' : World} {n : String} {cs : Array Value} (h : ∀ g, g < B → W'.heap[g]? = W.heap[g]?) (hg : P.globalNamed n = some g) (hgB : g < B) (hv : W.var? P n = some cs) : W'.var? P n = some cs := by
 unfold World.var? at hv ⊢
 simp only [hg, Option.bind_some] at hv ⊢
 rw [h g hgB]
 exact hv
theorem gTab : Tryz.prog.globalNamed "internal/strconv.uint64pow10" = some 6 := by kernel_rfl
theorem gSyn : Tryz.prog.globalNamed "strconv.ErrSyntax" = some 4 := by kernel_rfl
theorem gRng : Tryz.prog.globalNamed "strconv.ErrRange" = some 5 := by kernel_rfl
theorem Gl.same {B : Nat} {w w' : World} (h : Gl B w) (hb : ∀ g, g < B → w'.heap[g]? = w.heap[g]?) : Gl B w' := by
 obtain ⟨m1, m2, m3, m4⟩ := h.many
 obtain ⟨m, hm⟩ := h.maxl
 obtain ⟨t1, p1, s1⟩ := h.syn
 obtain ⟨t2, p2, s2⟩ := h.rng
 exact ⟨m1_ hb gTab m1 h.tab, ⟨t1, p1, m1_ hb gSyn m2 s1⟩, ⟨t2, p2, m1_ hb gRng m3 s2⟩, ⟨m, by unfold World.cell? at hm ⊢; rw [hb _ m4]; exact hm⟩, h.many⟩
noncomputable def En : Env := ⟨Tryz.prog, fun g => if g = 0 then some [.sl false (bn_ ownW)] else none, Gl, fun _ _ _ h hb => h.same hb⟩
theorem ak1_ : En.G 0 = some [.sl false (bn_ ownW)] := rfl
theorem enM : En.P.follows .mixedOrders = true := by kernel_rfl
end
section
theorem ty2 : bv_ En.P 2 = some ⟨TK.int IntKind.i64, 1, V.i IntKind.i64 (0)⟩ := by kernel_rfl
theorem zo2 : bq_ En.P 2 = V.i IntKind.i64 (0) := by kernel_rfl
theorem ty3 : bv_ En.P 3 = some ⟨TK.int IntKind.i64, 1, V.i IntKind.i64 (0)⟩ := by kernel_rfl
theorem zo3 : bq_ En.P 3 = V.i IntKind.i64 (0) := by kernel_rfl
theorem ty4 : bv_ En.P 4 = some ⟨TK.bool, 1, V.b false⟩ := by kernel_rfl
theorem zo4 : bq_ En.P 4 = V.b false := by kernel_rfl
theorem ty5 : bv_ En.P 5 = some ⟨TK.int IntKind.u8, 1, V.i IntKind.u8 (0)⟩ := by kernel_rfl
theorem zo5 : bq_ En.P 5 = V.i IntKind.u8 (0) := by kernel_rfl
theorem ty6 : bv_ En.P 6 = some ⟨TK.int IntKind.u8, 1, V.i IntKind.u8 (0)⟩ := by kernel_rfl
theorem zo6 : bq_ En.P 6 = V.i IntKind.u8 (0) := by kernel_rfl
theorem ty7 : bv_ En.P 7 = some ⟨TK.st [(0, 1, false), (1, 1, false), (2, 1, false), (3, 1, false)], 4, V.ag [V.i IntKind.i64 (0), V.i IntKind.i64 (0), V.b false, V.i IntKind.u8 (0)]⟩ := by kernel_rfl
theorem zo7 : bq_ En.P 7 = V.ag [V.i IntKind.i64 (0), V.i IntKind.i64 (0), V.b false, V.i IntKind.u8 (0)] := by kernel_rfl
theorem ty8 : bv_ En.P 8 = some ⟨TK.st [(0, 1, false), (1, 1, false), (2, 1, false), (3, 1, false)], 4, V.ag [V.i IntKind.i64 (0), V.i IntKind.i64 (0), V.b false, V.i IntKind.u8 (0)]⟩ := by kernel_rfl
theorem zo8 : bq_ En.P 8 = V.ag [V.i IntKind.i64 (0), V.i IntKind.i64 (0), V.b false, V.i IntKind.u8 (0)] := by kernel_rfl
theorem ty9 : bv_ En.P 9 = some ⟨TK.str, 1, V.s []⟩ := by kernel_rfl
theorem zo9 : bq_ En.P 9 = V.s [] := by kernel_rfl
theorem ty10 : bv_ En.P 10 = some ⟨TK.str, 1, V.s []⟩ := by kernel_rfl
theorem zo10 : bq_ En.P 10 = V.s [] := by kernel_rfl
theorem ty11 : bv_ En.P 11 = some ⟨TK.str, 1, V.s []⟩ := by kernel_rfl
theorem zo11 : bq_ En.P 11 = V.s [] := by kernel_rfl
theorem ty12 : bv_ En.P 12 = some ⟨TK.int IntKind.u64, 1, V.i IntKind.u64 (0)⟩ := by kernel_rfl
theorem zo12 : bq_ En.P 12 = V.i IntKind.u64 (0) := by kernel_rfl
theorem ty13 : bv_ En.P 13 = some ⟨TK.st [(0, 1, false), (1, 1, false)], 2, V.ag [V.s [], V.i IntKind.u64 (0)]⟩ := by kernel_rfl
theorem zo13 : bq_ En.P 13 = V.ag [V.s [], V.i IntKind.u64 (0)] := by kernel_rfl
theorem ty14 : bv_ En.P 14 = some ⟨TK.st [(0, 1, false), (1, 1, false)], 2, V.ag [V.s [], V.i IntKind.u64 (0)]⟩ := by kernel_rfl
theorem zo14 : bq_ En.P 14 = V.ag [V.s [], V.i IntKind.u64 (0)] := by kernel_rfl
theorem ty15 : bv_ En.P 15 = some ⟨TK.other, 1, V.np⟩ := by kernel_rfl
theorem zo15 : bq_ En.P 15 = V.np := by kernel_rfl
theorem ty16 : bv_ En.P 16 = some ⟨TK.other, 1, V.np⟩ := by kernel_rfl
theorem zo16 : bq_ En.P 16 = V.np := by kernel_rfl
theorem ty17 : bv_ En.P 17 = some ⟨TK.other, 1, V.np⟩ := by kernel_rfl
theorem zo17 : bq_ En.P 17 = V.np := by kernel_rfl
theorem ty18 : bv_ En.P 18 = some ⟨TK.st [(0, 1, false)], 1, V.ag [V.np]⟩ := by kernel_rfl
theorem zo18 : bq_ En.P 18 = V.ag [V.np] := by kernel_rfl
theorem ty19 : bv_ En.P 19 = some ⟨TK.st [(0, 1, false)], 1, V.ag [V.np]⟩ := by kernel_rfl
theorem zo19 : bq_ En.P 19 = V.ag [V.np] := by kernel_rfl
theorem ty21 : bv_ En.P 21 = some ⟨TK.int IntKind.i32, 1, V.i IntKind.i32 (0)⟩ := by kernel_rfl
theorem zo21 : bq_ En.P 21 = V.i IntKind.i32 (0) := by kernel_rfl
theorem ty22 : bv_ En.P 22 = some ⟨TK.sl 5 1 1 [V.i IntKind.u8 (0)], 1, V.sl true []⟩ := by kernel_rfl
theorem zo22 : bq_ En.P 22 = V.sl true [] := by kernel_rfl
theorem ty23 : bv_ En.P 23 = some ⟨TK.sl 37 4 64 [V.s [], V.b false, V.s [], V.sl true []], 1, V.sl true []⟩ := by kernel_rfl
theorem zo23 : bq_ En.P 23 = V.sl true [] := by kernel_rfl
theorem ty25 : bv_ En.P 25 = some ⟨TK.sl 32 4 32 [V.i IntKind.i64 (0), V.i IntKind.i64 (0), V.i IntKind.i64 (0), V.i IntKind.i64 (0)], 1, V.sl true []⟩ := by kernel_rfl
theorem zo25 : bq_ En.P 25 = V.sl true [] := by kernel_rfl
theorem ty29 : bv_ En.P 29 = some ⟨TK.st [(0, 1, false), (1, 1, false)], 2, V.ag [V.i IntKind.i64 (0), V.i IntKind.i64 (0)]⟩ := by kernel_rfl
theorem zo29 : bq_ En.P 29 = V.ag [V.i IntKind.i64 (0), V.i IntKind.i64 (0)] := by kernel_rfl
theorem ty30 : bv_ En.P 30 = some ⟨TK.st [(0, 1, false), (1, 1, false)], 2, V.ag [V.i IntKind.i64 (0), V.i IntKind.i64 (0)]⟩ := by kernel_rfl
theorem zo30 : bq_ En.P 30 = V.ag [V.i IntKind.i64 (0), V.i IntKind.i64 (0)] := by kernel_rfl
theorem ty31 : bv_ En.P 31 = some ⟨TK.st [(0, 2, true), (2, 2, true)], 4, V.ag [V.i IntKind.i64 (0), V.i IntKind.i64 (0), V.i IntKind.i64 (0), V.i IntKind.i64 (0)]⟩ := by kernel_rfl
theorem zo31 : bq_ En.P 31 = V.ag [V.i IntKind.i64 (0), V.i IntKind.i64 (0), V.i IntKind.i64 (0), V.i IntKind.i64 (0)] := by kernel_rfl
theorem ty32 : bv_ En.P 32 = some ⟨TK.st [(0, 2, true), (2, 2, true)], 4, V.ag [V.i IntKind.i64 (0), V.i IntKind.i64 (0), V.i IntKind.i64 (0), V.i IntKind.i64 (0)]⟩ := by kernel_rfl
theorem zo32 : bq_ En.P 32 = V.ag [V.i IntKind.i64 (0), V.i IntKind.i64 (0), V.i IntKind.i64 (0), V.i IntKind.i64 (0)] := by kernel_rfl
theorem ty35 : bv_ En.P 35 = some ⟨TK.sl 3 1 8 [V.i IntKind.i64 (0)], 1, V.sl true []⟩ := by kernel_rfl
theorem zo35 : bq_ En.P 35 = V.sl true [] := by kernel_rfl
theorem ty36 : bv_ En.P 36 = some ⟨TK.st [(0, 1, false), (1, 1, false), (2, 1, false), (3, 1, false)], 4, V.ag [V.s [], V.b false, V.s [], V.sl true []]⟩ := by kernel_rfl
theorem zo36 : bq_ En.P 36 = V.ag [V.s [], V.b false, V.s [], V.sl true []] := by kernel_rfl
theorem ty37 : bv_ En.P 37 = some ⟨TK.st [(0, 1, false), (1, 1, false), (2, 1, false), (3, 1, false)], 4, V.ag [V.s [], V.b false, V.s [], V.sl true []]⟩ := by kernel_rfl
theorem zo37 : bq_ En.P 37 = V.ag [V.s [], V.b false, V.s [], V.sl true []] := by kernel_rfl
theorem ty39 : bv_ En.P 39 = some ⟨TK.sl 41 4 56 [V.i IntKind.i64 (0), V.i IntKind.i64 (0), V.s [], V.sl true []], 1, V.sl true []⟩ := by kernel_rfl
theorem zo39 : bq_ En.P 39 = V.sl true [] := by kernel_rfl
theorem ty40 : bv_ En.P 40 = some ⟨TK.st [(0, 1, false), (1, 1, false), (2, 1, false), (3, 1, false)], 4, V.ag [V.i IntKind.i64 (0), V.i IntKind.i64 (0), V.s [], V.sl true []]⟩ := by kernel_rfl
theorem zo40 : bq_ En.P 40 = V.ag [V.i IntKind.i64 (0), V.i IntKind.i64 (0), V.s [], V.sl true []] := by kernel_rfl
theorem ty41 : bv_ En.P 41 = some ⟨TK.st [(0, 1, false), (1, 1, false), (2, 1, false), (3, 1, false)], 4, V.ag [V.i IntKind.i64 (0), V.i IntKind.i64 (0), V.s [], V.sl true []]⟩ := by kernel_rfl
theorem zo41 : bq_ En.P 41 = V.ag [V.i IntKind.i64 (0), V.i IntKind.i64 (0), V.s [], V.sl true []] := by kernel_rfl
theorem ty42 : bv_ En.P 42 = some ⟨TK.st [(0, 1, false), (1, 1, false), (2, 1, false), (3, 4, true), (7, 4, true)], 11, V.ag [V.i IntKind.i64 (0), V.s [], V.s [], V.i IntKind.i64 (0), V.i IntKind.i64 (0), V.s [], V.sl true [], V.i IntKind.i64 (0), V.i IntKind.i64 (0), V.s [], V.sl true []]⟩ := by kernel_rfl
theorem zo42 : bq_ En.P 42 = V.ag [V.i IntKind.i64 (0), V.s [], V.s [], V.i IntKind.i64 (0), V.i IntKind.i64 (0), V.s [], V.sl true [], V.i IntKind.i64 (0), V.i IntKind.i64 (0), V.s [], V.sl true []] := by kernel_rfl
theorem ty43 : bv_ En.P 43 = some ⟨TK.st [(0, 1, false), (1, 1, false), (2, 1, false), (3, 4, true), (7, 4, true)], 11, V.ag [V.i IntKind.i64 (0), V.s [], V.s [], V.i IntKind.i64 (0), V.i IntKind.i64 (0), V.s [], V.sl true [], V.i IntKind.i64 (0), V.i IntKind.i64 (0), V.s [], V.sl true []]⟩ := by kernel_rfl
theorem zo43 : bq_ En.P 43 = V.ag [V.i IntKind.i64 (0), V.s [], V.s [], V.i IntKind.i64 (0), V.i IntKind.i64 (0), V.s [], V.sl true [], V.i IntKind.i64 (0), V.i IntKind.i64 (0), V.s [], V.sl true []] := by kernel_rfl
theorem ty49 : bv_ En.P 49 = some ⟨TK.sl 9 1 16 [V.s []], 1, V.sl true []⟩ := by kernel_rfl
theorem zo49 : bq_ En.P 49 = V.sl true [] := by kernel_rfl
theorem ty52 : bv_ En.P 52 = some ⟨TK.sl 43 11 152 [V.i IntKind.i64 (0), V.s [], V.s [], V.i IntKind.i64 (0), V.i IntKind.i64 (0), V.s [], V.sl true [], V.i IntKind.i64 (0), V.i IntKind.i64 (0), V.s [], V.sl true []], 1, V.sl true []⟩ := by kernel_rfl
theorem zo52 : bq_ En.P 52 = V.sl true [] := by kernel_rfl
theorem ty67 : bv_ En.P 67 = some ⟨TK.other, 1, V.np⟩ := by kernel_rfl
theorem zo67 : bq_ En.P 67 = V.np := by kernel_rfl
theorem ty71 : bv_ En.P 71 = some ⟨TK.sl 75 3 32 [V.i IntKind.i64 (0), V.s [], V.i IntKind.i64 (0)], 1, V.sl true []⟩ := by kernel_rfl
theorem zo71 : bq_ En.P 71 = V.sl true [] := by kernel_rfl
theorem ty74 : bv_ En.P 74 = some ⟨TK.st [(0, 1, false), (1, 1, false), (2, 1, false)], 3, V.ag [V.i IntKind.i64 (0), V.s [], V.i IntKind.i64 (0)]⟩ := by kernel_rfl
theorem zo74 : bq_ En.P 74 = V.ag [V.i IntKind.i64 (0), V.s [], V.i IntKind.i64 (0)] := by kernel_rfl
theorem ty75 : bv_ En.P 75 = some ⟨TK.st [(0, 1, false), (1, 1, false), (2, 1, false)], 3, V.ag [V.i IntKind.i64 (0), V.s [], V.i IntKind.i64 (0)]⟩ := by kernel_rfl
theorem zo75 : bq_ En.P 75 = V.ag [V.i IntKind.i64 (0), V.s [], V.i IntKind.i64 (0)] := by kernel_rfl
theorem alk_ : bv_ En.P 104 = some ⟨TK.st [(0, 1, false), (1, 1, false)], 2, V.ag [V.sl true [], V.i IntKind.i64 (0)]⟩ := by kernel_rfl
theorem amy_ : bq_ En.P 104 = V.ag [V.sl true [], V.i IntKind.i64 (0)] := by kernel_rfl
theorem ams_ : bv_ En.P 105 = some ⟨TK.st [(0, 1, false), (1, 1, false)], 2, V.ag [V.sl true [], V.i IntKind.i64 (0)]⟩ := by kernel_rfl
theorem ann_ : bq_ En.P 105 = V.ag [V.sl true [], V.i IntKind.i64 (0)] := by kernel_rfl
theorem ama_ : bv_ En.P 120 = some ⟨TK.sl 124 2 24 [V.s [], V.i IntKind.i64 (0)], 1, V.sl true []⟩ := by kernel_rfl
theorem am6_ : bq_ En.P 120 = V.sl true [] := by kernel_rfl
theorem ank_ : bv_ En.P 123 = some ⟨TK.st [(0, 1, false), (1, 1, false)], 2, V.ag [V.s [], V.i IntKind.i64 (0)]⟩ := by kernel_rfl
theorem als_ : bq_ En.P 123 = V.ag [V.s [], V.i IntKind.i64 (0)] := by kernel_rfl
theorem amn_ : bv_ En.P 124 = some ⟨TK.st [(0, 1, false), (1, 1, false)], 2, V.ag [V.s [], V.i IntKind.i64 (0)]⟩ := by kernel_rfl
theorem al5_ : bq_ En.P 124 = V.ag [V.s [], V.i IntKind.i64 (0)] := by kernel_rfl
theorem al7_ : bv_ En.P 125 = some ⟨TK.st [(0, 1, false), (1, 1, false), (2, 4, true), (6, 4, true)], 10, V.ag [V.i IntKind.i64 (0), V.s [], V.i IntKind.i64 (0), V.i IntKind.i64 (0), V.s [], V.sl true [], V.i IntKind.i64 (0), V.i IntKind.i64 (0), V.s [], V.sl true []]⟩ := by kernel_rfl
theorem amm_ : bq_ En.P 125 = V.ag [V.i IntKind.i64 (0), V.s [], V.i IntKind.i64 (0), V.i IntKind.i64 (0), V.s [], V.sl true [], V.i IntKind.i64 (0), V.i IntKind.i64 (0), V.s [], V.sl true []] := by kernel_rfl
theorem ame_ : bv_ En.P 126 = some ⟨TK.st [(0, 1, false), (1, 1, false), (2, 4, true), (6, 4, true)], 10, V.ag [V.i IntKind.i64 (0), V.s [], V.i IntKind.i64 (0), V.i IntKind.i64 (0), V.s [], V.sl true [], V.i IntKind.i64 (0), V.i IntKind.i64 (0), V.s [], V.sl true []]⟩ := by kernel_rfl
theorem am1_ : bq_ En.P 126 = V.ag [V.i IntKind.i64 (0), V.s [], V.i IntKind.i64 (0), V.i IntKind.i64 (0), V.s [], V.sl true [], V.i IntKind.i64 (0), V.i IntKind.i64 (0), V.s [], V.sl true []] := by kernel_rfl
theorem anj_ : bv_ En.P 131 = some ⟨TK.other, 1, V.np⟩ := by kernel_rfl
theorem ane_ : bq_ En.P 131 = V.np := by kernel_rfl
theorem ali_ : bv_ En.P 132 = some ⟨TK.st [(0, 1, false), (1, 1, false)], 2, V.ag [V.np, V.sl true []]⟩ := by kernel_rfl
theorem and_ : bq_ En.P 132 = V.ag [V.np, V.sl true []] := by kernel_rfl
theorem amo_ : bv_ En.P 133 = some ⟨TK.st [(0, 1, false), (1, 1, false)], 2, V.ag [V.np, V.sl true []]⟩ := by kernel_rfl
theorem am3_ : bq_ En.P 133 = V.ag [V.np, V.sl true []] := by kernel_rfl
theorem al4_ : bv_ En.P 146 = some ⟨TK.sl 150 2 24 [V.s [], V.i IntKind.i64 (0)], 1, V.sl true []⟩ := by kernel_rfl
theorem amj_ : bq_ En.P 146 = V.sl true [] := by kernel_rfl
theorem ana_ : bv_ En.P 149 = some ⟨TK.st [(0, 1, false), (1, 1, false)], 2, V.ag [V.s [], V.i IntKind.i64 (0)]⟩ := by kernel_rfl
theorem anh_ : bq_ En.P 149 = V.ag [V.s [], V.i IntKind.i64 (0)] := by kernel_rfl
theorem amf_ : bv_ En.P 150 = some ⟨TK.st [(0, 1, false), (1, 1, false)], 2, V.ag [V.s [], V.i IntKind.i64 (0)]⟩ := by kernel_rfl
theorem aml_ : bq_ En.P 150 = V.ag [V.s [], V.i IntKind.i64 (0)] := by kernel_rfl
theorem amu_ : bv_ En.P 152 = some ⟨TK.other, 1, V.np⟩ := by kernel_rfl
theorem am8_ : bq_ En.P 152 = V.np := by kernel_rfl
theorem aly_ : bv_ En.P 153 = some ⟨TK.st [(0, 1, false), (1, 1, false), (2, 1, false)], 3, V.ag [V.sl true [], V.b false, V.i IntKind.i64 (0)]⟩ := by kernel_rfl
theorem alm_ : bq_ En.P 153 = V.ag [V.sl true [], V.b false, V.i IntKind.i64 (0)] := by kernel_rfl
theorem alt_ : bv_ En.P 154 = some ⟨TK.st [(0, 1, false), (1, 1, false), (2, 1, false)], 3, V.ag [V.sl true [], V.b false, V.i IntKind.i64 (0)]⟩ := by kernel_rfl
theorem alw_ : bq_ En.P 154 = V.ag [V.sl true [], V.b false, V.i IntKind.i64 (0)] := by kernel_rfl
theorem anl_ : bv_ En.P 161 = some ⟨TK.other, 1, V.np⟩ := by kernel_rfl
theorem amz_ : bq_ En.P 161 = V.np := by kernel_rfl
theorem amk_ : bv_ En.P 171 = some ⟨TK.sl 23 1 24 [V.sl true []], 1, V.sl true []⟩ := by kernel_rfl
theorem alq_ : bq_ En.P 171 = V.sl true [] := by kernel_rfl
theorem al6_ : bv_ En.P 173 = some ⟨TK.other, 1, V.np⟩ := by kernel_rfl
theorem am2_ : bq_ En.P 173 = V.np := by kernel_rfl
theorem anb_ : bv_ En.P 187 = some ⟨TK.other, 1, V.np⟩ := by kernel_rfl
theorem ani_ : bq_ En.P 187 = V.np := by kernel_rfl
theorem al3_ : bv_ En.P 196 = some ⟨TK.int IntKind.u64, 1, V.i IntKind.u64 (0)⟩ := by kernel_rfl
theorem ang_ : bq_ En.P 196 = V.i IntKind.u64 (0) := by kernel_rfl
theorem alx_ : bv_ En.P 201 = some ⟨TK.int IntKind.u32, 1, V.i IntKind.u32 (0)⟩ := by kernel_rfl
theorem alg_ : bq_ En.P 201 = V.i IntKind.u32 (0) := by kernel_rfl
theorem all_ : bv_ En.P 206 = some ⟨TK.st [(0, 1, false), (1, 1, false)], 2, V.ag [V.i IntKind.u8 (0), V.i IntKind.u8 (0)]⟩ := by kernel_rfl
theorem amc_ : bq_ En.P 206 = V.ag [V.i IntKind.u8 (0), V.i IntKind.u8 (0)] := by kernel_rfl
theorem amr_ : bv_ En.P 207 = some ⟨TK.st [(0, 1, false), (1, 1, false)], 2, V.ag [V.i IntKind.u8 (0), V.i IntKind.u8 (0)]⟩ := by kernel_rfl
theorem amp_ : bq_ En.P 207 = V.ag [V.i IntKind.u8 (0), V.i IntKind.u8 (0)] := by kernel_rfl
theorem am7_ : bv_ En.P 210 = some ⟨TK.int IntKind.i64, 1, V.i IntKind.i64 (0)⟩ := by kernel_rfl
theorem anm_ : bq_ En.P 210 = V.i IntKind.i64 (0) := by kernel_rfl
theorem am4_ : bv_ En.P 213 = some ⟨TK.other, 1, V.np⟩ := by kernel_rfl
theorem amt_ : bq_ En.P 213 = V.np := by kernel_rfl
theorem amq_ : bv_ En.P 217 = some ⟨TK.int IntKind.u64, 1, V.i IntKind.u64 (0)⟩ := by kernel_rfl
theorem alr_ : bq_ En.P 217 = V.i IntKind.u64 (0) := by kernel_rfl
end
section
mutual
def eC : E → List V
 | .mk k n s kids => [.i .i64 k, .i .i64 n, .s s, .sl false (eR kids)]
def eR : List E → List (List V)
 | [] => []
 | e :: r => eC e :: eR r
end
theorem a8_ (e : E) : eC e = [.i .i64 e.kind, .i .i64 e.n, .s e.s, .sl false (eR e.kids)] := by cases e; simp only [eC, E.kind, E.n, E.s, E.kids]
theorem mr_ : ∀ l : List E, eR l = l.map eC
 | [] => by simp only [eR, List.map_nil]
 | e :: r => by simp only [eR, List.map_cons, mr_ r]
theorem na_ (l : List E) : (eR l).length = l.length := by rw [mr_, List.length_map]
theorem dw_ {l : List E} {k : Nat} (h : k < l.length) : (eR l).getD k [] = eC (l.getD k E0) := by
 rw [mr_]; simp [T8_, T6_ h]
mutual
theorem aho_ : ∀ e : E, cf_ (eC e) = true
 | .mk k n s kids => by simp only [eC, cf_, V.pure, iy_ kids, Bool.and_self]
theorem iy_ : ∀ l : List E, b4_ (eR l) = true
 | [] => by simp only [eR, b4_]
 | e :: r => by simp only [eR, b4_, aho_ e, iy_ r, Bool.and_self]
end
def byR (b : Str) : List (List V) := b.map fun c => [.i .u8 c.toNat]
theorem ag0_ (b : Str) : (byR b).length = b.length := by simp [byR]
theorem vn_ : ∀ b : Str, b4_ (byR b) = true
 | [] => rfl
 | c :: b => by simp only [byR, List.map_cons, b4_, cf_, V.pure, Bool.true_and]; exact vn_ b
theorem tx_ {b : Str} {k : Nat} (h : k < b.length) : (byR b).getD k [] = [.i .u8 (b.getD k 0).toNat] := by
 simp [byR, T8_, T6_ h]
theorem afy_ (b : Str) (k : Nat) : (byR b).take k = byR (b.take k) := by simp [byR, List.map_take]
theorem amg_ (a b c : Nat) (d : List V) : (∃ el z y zc, some (TK.sl a b c d) = some (TK.sl el z y zc)) = True := eq_true ⟨a, b, c, d, rfl⟩
end
section
attribute [go_sem] lxs aem_ gE gO evO obO aft_ acz_ St.pv St.ev peel dt_ pcB Op.operands Call.operands V.ofConst V.ofConst1 nm ai6_ ai8_ sd_ aen_ ai4_ idxV idxC maxV minV ls_ hg_ s7_ ub_ TK.agg ai2_ xi_ wq_ y3_ v8_ yw_ r6_ yy_ sw_ tw_ aunV aunC md_ ldV ldC cr_ stV okC stC fldV fldC ixaV ixaC nk_ ja_ f7_ isC n0_ extV extC lenV lenC slcV slcC bndC ioV po_ appC xs_ mkE V.one V.cells isB hb_ fq_ abo_ xd_ te_ x4_ wrL oq_ fs_ jc_ rnB rn rns rnr a4_ bu_ ajm_ cg_ x2_ sy_ aje_ ai9_ ajp_ newE mn_ zk_ nilO nilV rm_ abb_ add_ List.head?_cons List.head?_nil ou_ p5_ u2_ lend les leV ler g3_ fm_ bd_ bsO bsE cvO cvV gl_ frz gj_ kw_ frzB ml_ aj_ ao_ cf_ b4_ V.pure cls clr V.cl nl_ V.flat us List.getD_cons_zero List.getD_cons_succ List.getD_nil List.set_cons_zero List.set_cons_succ List.set_nil List.getElem?_cons_zero List.getElem?_cons_succ List.getElem?_nil Option.map_some Option.map_none Option.bind_some Option.bind_none Option.getD_some Option.getD_none Option.isSome_some Option.isNone_none Option.isNone_some Option.toArray_some Option.toArray_none List.toList_toArray List.map_cons List.map_nil List.append_nil List.nil_append List.cons_append List.all_cons List.all_nil List.all_append List.isEmpty_nil List.isEmpty_cons List.reverse_cons List.reverse_nil List.drop_zero List.drop_succ_cons List.drop_nil List.take_zero List.take_succ_cons List.take_nil T7_ List.length_nil List.zip_cons_cons List.zip_nil_left List.zip_nil_right List.flatMap_cons List.flatMap_nil List.replicate_succ List.replicate_zero Array.toList_append List.getElem?_toArray Array.getD_eq_getD_getElem? Bool.true_and Bool.and_true Bool.false_and Bool.and_false Bool.not_true Bool.not_false Bool.and_self beq_self_eq_true and_true true_and and_self cond_true cond_false if_true if_false ite_true ite_false decide_true decide_false Bool.decide_eq_true true_implies implies_true imp_self Nat.zero_add Nat.le_refl Nat.add_zero Nat.zero_mul Int.toNat_zero List.contains_nil List.contains_cons Bool.or_false Bool.or_true Bool.false_or Bool.true_or T9_ Ta_ eq_self List.append_toArray Bool.false_eq_true Array.size_empty List.push_toArray List.size_toArray Array.toList_map Array.toList_empty Bool.cond_false_right Bool.cond_true_left beq_true beq_false Int.toNat_natCast ab_ aa_ j4_ b7_ pn_ mq_ a8_ na_ iy_ ak1_ ag0_ vn_ afy_ amg_ ifO maxO ae7_ aai_ adk_ adv_ ajx_ ahw_ akt_ ty2 zo2 ty3 zo3 ty4 zo4 ty5 zo5 ty6 zo6 ty7 zo7 ty8 zo8 ty9 zo9 ty10 zo10 ty11 zo11 ty12 zo12 ty13 zo13 ty14 zo14 ty15 zo15 ty16 zo16 ty17 zo17 ty18 zo18 ty19 zo19 ty21 zo21 ty22 zo22 ty23 zo23 ty25 zo25 ty29 zo29 ty30 zo30 ty31 zo31 ty32 zo32 ty35 zo35 ty36 zo36 ty37 zo37 ty39 zo39 ty40 zo40 ty41 zo41 ty42 zo42 ty43 zo43 ty49 zo49 ty52 zo52 ty67 zo67 ty71 zo71 ty74 zo74 ty75 zo75 alk_ amy_ ams_ ann_ ama_ am6_ ank_ als_ amn_ al5_ al7_ amm_ ame_ am1_ anj_ ane_ ali_ and_ amo_ am3_ al4_ amj_ ana_ anh_ amf_ aml_ amu_ am8_ aly_ alm_ alt_ alw_ anl_ amz_ amk_ alq_ al6_ am2_ anb_ ani_ al3_ ang_ alx_ alg_ all_ amc_ amr_ amp_ am7_ anm_ am4_ amt_ amq_ alr_
end
end Go.Proofs.YtilppnadkfgnfaaGreatDoor
