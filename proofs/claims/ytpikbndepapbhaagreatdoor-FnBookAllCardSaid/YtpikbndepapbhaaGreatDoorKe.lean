/- The program as an environment of the tree logic: what its package variables hold. Conditions: none. -/
import Derived.Test.YtpikbndepapbhaaGreatDoorKb
import Derived.Test.YtpikbndepapbhaaGreatDoorProg
import Derived.Test.YtpikbndepapbhaaGreatDoorKc
import Derived.Lib.LaidTab
set_option linter.unusedVariables false
set_option linter.unusedSimpArgs false
namespace Go.Proofs.YtpikbndepapbhaaGreatDoor
section
open Go.RowKit
def ownW : List Str := [[108, 101, 116], [115, 97, 121], [119, 104, 101, 110], [97, 115], [112, 114, 105, 110, 116], [105, 102], [105, 110, 116], [98, 111, 111, 108]]
def bo_ (l : List Str) : List (List V) := l.map fun s => [.s s]
theorem ab_ (l : List Str) : (bo_ l).length = l.length := by simp [bo_]
theorem b8_ {l : List Str} {k : Nat} (h : k < l.length) : (bo_ l).getD k [] = [.s (l.getD k [])] := by
 simp [bo_, T8_, T6_ h]
theorem aa_ : ∀ l : List Str, b5_ (bo_ l) = true
 | [] => rfl
 | s :: l => by simp only [bo_, List.map_cons, b5_, cc_, V.pure, Bool.true_and]; exact aa_ l
structure Gl (B : Nat) (w : World) : Prop where
 tab : Lib.TabIs Tryz.prog w "internal/strconv.uint64pow10" .u64 Lib.pow10Tab
 syn : ∃ tp p, w.var? Tryz.prog "strconv.ErrSyntax" = some #[.iface tp p]
 rng : ∃ tp p, w.var? Tryz.prog "strconv.ErrRange" = some #[.iface tp p]
 maxl : ∃ m : Int, w.cell? ⟨1, 0, none⟩ = some (.int .i64 m)
 many : 4 < B ∧ 5 < B ∧ 6 < B ∧ 1 < B
theorem mj_ {P : Program} {B g : Nat} {W W' : World} {n : String} {cs : Array Value} (h : ∀ g, g < B → W'.heap[g]? = W.heap[g]?) (hg : P.globalNamed n = some g) (hgB : g < B) (hv : W.var? P n = some cs) : W'.var? P n = some cs := by
 unfold World.var? at hv ⊢
 simp only [hg, Option.bind_some] at hv ⊢
 rw [h g hgB]
 exact hv
theorem gTab : Tryz.prog.globalNamed "internal/strconv.uint64pow10" = some 4 := by kernel_rfl
theorem gSyn : Tryz.prog.globalNamed "strconv.ErrSyntax" = some 5 := by kernel_rfl
theorem gRng : Tryz.prog.globalNamed "strconv.ErrRange" = some 6 := by kernel_rfl
theorem Gl.same {B : Nat} {w w' : World} (h : Gl B w) (hb : ∀ g, g < B → w'.heap[g]? = w.heap[g]?) : Gl B w' := by
 obtain ⟨m1, m2, m3, m4⟩ := h.many
 obtain ⟨m, hm⟩ := h.maxl
 obtain ⟨t1, p1, s1⟩ := h.syn
 obtain ⟨t2, p2, s2⟩ := h.rng
 exact ⟨mj_ hb gTab m1 h.tab, ⟨t1, p1, mj_ hb gSyn m2 s1⟩, ⟨t2, p2, mj_ hb gRng m3 s2⟩, ⟨m, by unfold World.cell? at hm ⊢; rw [hb _ m4]; exact hm⟩, h.many⟩
noncomputable def En : Env := ⟨Tryz.prog, fun g => if g = 0 then some [.sl false (bo_ ownW)] else none, Gl, fun _ _ _ h hb => h.same hb⟩
theorem akr_ : En.G 0 = some [.sl false (bo_ ownW)] := rfl
theorem enM : En.P.follows .mixedOrders = true := by kernel_rfl
end
section
theorem ty2 : bv_ En.P 2 = some ⟨TK.int IntKind.i64, 1, V.i IntKind.i64 (0)⟩ := by kernel_rfl
theorem zo2 : bp_ En.P 2 = V.i IntKind.i64 (0) := by kernel_rfl
theorem ty3 : bv_ En.P 3 = some ⟨TK.int IntKind.i64, 1, V.i IntKind.i64 (0)⟩ := by kernel_rfl
theorem zo3 : bp_ En.P 3 = V.i IntKind.i64 (0) := by kernel_rfl
theorem ty4 : bv_ En.P 4 = some ⟨TK.bool, 1, V.b false⟩ := by kernel_rfl
theorem zo4 : bp_ En.P 4 = V.b false := by kernel_rfl
theorem ty5 : bv_ En.P 5 = some ⟨TK.int IntKind.u8, 1, V.i IntKind.u8 (0)⟩ := by kernel_rfl
theorem zo5 : bp_ En.P 5 = V.i IntKind.u8 (0) := by kernel_rfl
theorem ty6 : bv_ En.P 6 = some ⟨TK.int IntKind.u8, 1, V.i IntKind.u8 (0)⟩ := by kernel_rfl
theorem zo6 : bp_ En.P 6 = V.i IntKind.u8 (0) := by kernel_rfl
theorem ty7 : bv_ En.P 7 = some ⟨TK.st [(0, 1, false), (1, 1, false), (2, 1, false), (3, 1, false)], 4, V.ag [V.i IntKind.i64 (0), V.i IntKind.i64 (0), V.b false, V.i IntKind.u8 (0)]⟩ := by kernel_rfl
theorem zo7 : bp_ En.P 7 = V.ag [V.i IntKind.i64 (0), V.i IntKind.i64 (0), V.b false, V.i IntKind.u8 (0)] := by kernel_rfl
theorem ty8 : bv_ En.P 8 = some ⟨TK.st [(0, 1, false), (1, 1, false), (2, 1, false), (3, 1, false)], 4, V.ag [V.i IntKind.i64 (0), V.i IntKind.i64 (0), V.b false, V.i IntKind.u8 (0)]⟩ := by kernel_rfl
theorem zo8 : bp_ En.P 8 = V.ag [V.i IntKind.i64 (0), V.i IntKind.i64 (0), V.b false, V.i IntKind.u8 (0)] := by kernel_rfl
theorem ty9 : bv_ En.P 9 = some ⟨TK.str, 1, V.s []⟩ := by kernel_rfl
theorem zo9 : bp_ En.P 9 = V.s [] := by kernel_rfl
theorem ty10 : bv_ En.P 10 = some ⟨TK.str, 1, V.s []⟩ := by kernel_rfl
theorem zo10 : bp_ En.P 10 = V.s [] := by kernel_rfl
theorem ty11 : bv_ En.P 11 = some ⟨TK.str, 1, V.s []⟩ := by kernel_rfl
theorem zo11 : bp_ En.P 11 = V.s [] := by kernel_rfl
theorem ty12 : bv_ En.P 12 = some ⟨TK.int IntKind.u64, 1, V.i IntKind.u64 (0)⟩ := by kernel_rfl
theorem zo12 : bp_ En.P 12 = V.i IntKind.u64 (0) := by kernel_rfl
theorem ty13 : bv_ En.P 13 = some ⟨TK.st [(0, 1, false), (1, 1, false)], 2, V.ag [V.s [], V.i IntKind.u64 (0)]⟩ := by kernel_rfl
theorem zo13 : bp_ En.P 13 = V.ag [V.s [], V.i IntKind.u64 (0)] := by kernel_rfl
theorem ty14 : bv_ En.P 14 = some ⟨TK.st [(0, 1, false), (1, 1, false)], 2, V.ag [V.s [], V.i IntKind.u64 (0)]⟩ := by kernel_rfl
theorem zo14 : bp_ En.P 14 = V.ag [V.s [], V.i IntKind.u64 (0)] := by kernel_rfl
theorem ty15 : bv_ En.P 15 = some ⟨TK.other, 1, V.np⟩ := by kernel_rfl
theorem zo15 : bp_ En.P 15 = V.np := by kernel_rfl
theorem ty16 : bv_ En.P 16 = some ⟨TK.other, 1, V.np⟩ := by kernel_rfl
theorem zo16 : bp_ En.P 16 = V.np := by kernel_rfl
theorem ty17 : bv_ En.P 17 = some ⟨TK.other, 1, V.np⟩ := by kernel_rfl
theorem zo17 : bp_ En.P 17 = V.np := by kernel_rfl
theorem ty18 : bv_ En.P 18 = some ⟨TK.st [(0, 1, false)], 1, V.ag [V.np]⟩ := by kernel_rfl
theorem zo18 : bp_ En.P 18 = V.ag [V.np] := by kernel_rfl
theorem ty19 : bv_ En.P 19 = some ⟨TK.st [(0, 1, false)], 1, V.ag [V.np]⟩ := by kernel_rfl
theorem zo19 : bp_ En.P 19 = V.ag [V.np] := by kernel_rfl
theorem ty21 : bv_ En.P 21 = some ⟨TK.int IntKind.i32, 1, V.i IntKind.i32 (0)⟩ := by kernel_rfl
theorem zo21 : bp_ En.P 21 = V.i IntKind.i32 (0) := by kernel_rfl
theorem ty22 : bv_ En.P 22 = some ⟨TK.sl 5 1 1 [V.i IntKind.u8 (0)], 1, V.sl true []⟩ := by kernel_rfl
theorem zo22 : bp_ En.P 22 = V.sl true [] := by kernel_rfl
theorem ty24 : bv_ En.P 24 = some ⟨TK.sl 47 4 64 [V.s [], V.b false, V.s [], V.sl true []], 1, V.sl true []⟩ := by kernel_rfl
theorem zo24 : bp_ En.P 24 = V.sl true [] := by kernel_rfl
theorem ty27 : bv_ En.P 27 = some ⟨TK.sl 66 11 152 [V.i IntKind.i64 (0), V.s [], V.s [], V.i IntKind.i64 (0), V.i IntKind.i64 (0), V.s [], V.sl true [], V.i IntKind.i64 (0), V.i IntKind.i64 (0), V.s [], V.sl true []], 1, V.sl true []⟩ := by kernel_rfl
theorem zo27 : bp_ En.P 27 = V.sl true [] := by kernel_rfl
theorem ty30 : bv_ En.P 30 = some ⟨TK.sl 3 1 8 [V.i IntKind.i64 (0)], 1, V.sl true []⟩ := by kernel_rfl
theorem zo30 : bp_ En.P 30 = V.sl true [] := by kernel_rfl
theorem ty36 : bv_ En.P 36 = some ⟨TK.sl 54 4 32 [V.i IntKind.i64 (0), V.i IntKind.i64 (0), V.i IntKind.i64 (0), V.i IntKind.i64 (0)], 1, V.sl true []⟩ := by kernel_rfl
theorem zo36 : bp_ En.P 36 = V.sl true [] := by kernel_rfl
theorem ty46 : bv_ En.P 46 = some ⟨TK.st [(0, 1, false), (1, 1, false), (2, 1, false), (3, 1, false)], 4, V.ag [V.s [], V.b false, V.s [], V.sl true []]⟩ := by kernel_rfl
theorem zo46 : bp_ En.P 46 = V.ag [V.s [], V.b false, V.s [], V.sl true []] := by kernel_rfl
theorem ty47 : bv_ En.P 47 = some ⟨TK.st [(0, 1, false), (1, 1, false), (2, 1, false), (3, 1, false)], 4, V.ag [V.s [], V.b false, V.s [], V.sl true []]⟩ := by kernel_rfl
theorem zo47 : bp_ En.P 47 = V.ag [V.s [], V.b false, V.s [], V.sl true []] := by kernel_rfl
theorem ty51 : bv_ En.P 51 = some ⟨TK.st [(0, 1, false), (1, 1, false)], 2, V.ag [V.i IntKind.i64 (0), V.i IntKind.i64 (0)]⟩ := by kernel_rfl
theorem zo51 : bp_ En.P 51 = V.ag [V.i IntKind.i64 (0), V.i IntKind.i64 (0)] := by kernel_rfl
theorem ty52 : bv_ En.P 52 = some ⟨TK.st [(0, 1, false), (1, 1, false)], 2, V.ag [V.i IntKind.i64 (0), V.i IntKind.i64 (0)]⟩ := by kernel_rfl
theorem zo52 : bp_ En.P 52 = V.ag [V.i IntKind.i64 (0), V.i IntKind.i64 (0)] := by kernel_rfl
theorem ty53 : bv_ En.P 53 = some ⟨TK.st [(0, 2, true), (2, 2, true)], 4, V.ag [V.i IntKind.i64 (0), V.i IntKind.i64 (0), V.i IntKind.i64 (0), V.i IntKind.i64 (0)]⟩ := by kernel_rfl
theorem zo53 : bp_ En.P 53 = V.ag [V.i IntKind.i64 (0), V.i IntKind.i64 (0), V.i IntKind.i64 (0), V.i IntKind.i64 (0)] := by kernel_rfl
theorem ty54 : bv_ En.P 54 = some ⟨TK.st [(0, 2, true), (2, 2, true)], 4, V.ag [V.i IntKind.i64 (0), V.i IntKind.i64 (0), V.i IntKind.i64 (0), V.i IntKind.i64 (0)]⟩ := by kernel_rfl
theorem zo54 : bp_ En.P 54 = V.ag [V.i IntKind.i64 (0), V.i IntKind.i64 (0), V.i IntKind.i64 (0), V.i IntKind.i64 (0)] := by kernel_rfl
theorem ty55 : bv_ En.P 55 = some ⟨TK.sl 9 1 16 [V.s []], 1, V.sl true []⟩ := by kernel_rfl
theorem zo55 : bp_ En.P 55 = V.sl true [] := by kernel_rfl
theorem ty59 : bv_ En.P 59 = some ⟨TK.other, 1, V.np⟩ := by kernel_rfl
theorem zo59 : bp_ En.P 59 = V.np := by kernel_rfl
theorem ty62 : bv_ En.P 62 = some ⟨TK.sl 64 4 56 [V.i IntKind.i64 (0), V.i IntKind.i64 (0), V.s [], V.sl true []], 1, V.sl true []⟩ := by kernel_rfl
theorem zo62 : bp_ En.P 62 = V.sl true [] := by kernel_rfl
theorem ty63 : bv_ En.P 63 = some ⟨TK.st [(0, 1, false), (1, 1, false), (2, 1, false), (3, 1, false)], 4, V.ag [V.i IntKind.i64 (0), V.i IntKind.i64 (0), V.s [], V.sl true []]⟩ := by kernel_rfl
theorem zo63 : bp_ En.P 63 = V.ag [V.i IntKind.i64 (0), V.i IntKind.i64 (0), V.s [], V.sl true []] := by kernel_rfl
theorem ty64 : bv_ En.P 64 = some ⟨TK.st [(0, 1, false), (1, 1, false), (2, 1, false), (3, 1, false)], 4, V.ag [V.i IntKind.i64 (0), V.i IntKind.i64 (0), V.s [], V.sl true []]⟩ := by kernel_rfl
theorem zo64 : bp_ En.P 64 = V.ag [V.i IntKind.i64 (0), V.i IntKind.i64 (0), V.s [], V.sl true []] := by kernel_rfl
theorem ty65 : bv_ En.P 65 = some ⟨TK.st [(0, 1, false), (1, 1, false), (2, 1, false), (3, 4, true), (7, 4, true)], 11, V.ag [V.i IntKind.i64 (0), V.s [], V.s [], V.i IntKind.i64 (0), V.i IntKind.i64 (0), V.s [], V.sl true [], V.i IntKind.i64 (0), V.i IntKind.i64 (0), V.s [], V.sl true []]⟩ := by kernel_rfl
theorem zo65 : bp_ En.P 65 = V.ag [V.i IntKind.i64 (0), V.s [], V.s [], V.i IntKind.i64 (0), V.i IntKind.i64 (0), V.s [], V.sl true [], V.i IntKind.i64 (0), V.i IntKind.i64 (0), V.s [], V.sl true []] := by kernel_rfl
theorem ty66 : bv_ En.P 66 = some ⟨TK.st [(0, 1, false), (1, 1, false), (2, 1, false), (3, 4, true), (7, 4, true)], 11, V.ag [V.i IntKind.i64 (0), V.s [], V.s [], V.i IntKind.i64 (0), V.i IntKind.i64 (0), V.s [], V.sl true [], V.i IntKind.i64 (0), V.i IntKind.i64 (0), V.s [], V.sl true []]⟩ := by kernel_rfl
theorem zo66 : bp_ En.P 66 = V.ag [V.i IntKind.i64 (0), V.s [], V.s [], V.i IntKind.i64 (0), V.i IntKind.i64 (0), V.s [], V.sl true [], V.i IntKind.i64 (0), V.i IntKind.i64 (0), V.s [], V.sl true []] := by kernel_rfl
theorem ty91 : bv_ En.P 91 = some ⟨TK.st [(0, 1, false), (1, 1, false)], 2, V.ag [V.sl true [], V.i IntKind.i64 (0)]⟩ := by kernel_rfl
theorem zo91 : bp_ En.P 91 = V.ag [V.sl true [], V.i IntKind.i64 (0)] := by kernel_rfl
theorem ty92 : bv_ En.P 92 = some ⟨TK.st [(0, 1, false), (1, 1, false)], 2, V.ag [V.sl true [], V.i IntKind.i64 (0)]⟩ := by kernel_rfl
theorem zo92 : bp_ En.P 92 = V.ag [V.sl true [], V.i IntKind.i64 (0)] := by kernel_rfl
theorem amo_ : bv_ En.P 103 = some ⟨TK.sl 107 2 24 [V.s [], V.i IntKind.i64 (0)], 1, V.sl true []⟩ := by kernel_rfl
theorem alr_ : bp_ En.P 103 = V.sl true [] := by kernel_rfl
theorem alc_ : bv_ En.P 106 = some ⟨TK.st [(0, 1, false), (1, 1, false)], 2, V.ag [V.s [], V.i IntKind.i64 (0)]⟩ := by kernel_rfl
theorem ama_ : bp_ En.P 106 = V.ag [V.s [], V.i IntKind.i64 (0)] := by kernel_rfl
theorem amn_ : bv_ En.P 107 = some ⟨TK.st [(0, 1, false), (1, 1, false)], 2, V.ag [V.s [], V.i IntKind.i64 (0)]⟩ := by kernel_rfl
theorem ala_ : bp_ En.P 107 = V.ag [V.s [], V.i IntKind.i64 (0)] := by kernel_rfl
theorem amp_ : bv_ En.P 108 = some ⟨TK.st [(0, 1, false), (1, 1, false), (2, 4, true), (6, 4, true)], 10, V.ag [V.i IntKind.i64 (0), V.s [], V.i IntKind.i64 (0), V.i IntKind.i64 (0), V.s [], V.sl true [], V.i IntKind.i64 (0), V.i IntKind.i64 (0), V.s [], V.sl true []]⟩ := by kernel_rfl
theorem alz_ : bp_ En.P 108 = V.ag [V.i IntKind.i64 (0), V.s [], V.i IntKind.i64 (0), V.i IntKind.i64 (0), V.s [], V.sl true [], V.i IntKind.i64 (0), V.i IntKind.i64 (0), V.s [], V.sl true []] := by kernel_rfl
theorem alb_ : bv_ En.P 109 = some ⟨TK.st [(0, 1, false), (1, 1, false), (2, 4, true), (6, 4, true)], 10, V.ag [V.i IntKind.i64 (0), V.s [], V.i IntKind.i64 (0), V.i IntKind.i64 (0), V.s [], V.sl true [], V.i IntKind.i64 (0), V.i IntKind.i64 (0), V.s [], V.sl true []]⟩ := by kernel_rfl
theorem alf_ : bp_ En.P 109 = V.ag [V.i IntKind.i64 (0), V.s [], V.i IntKind.i64 (0), V.i IntKind.i64 (0), V.s [], V.sl true [], V.i IntKind.i64 (0), V.i IntKind.i64 (0), V.s [], V.sl true []] := by kernel_rfl
theorem al2_ : bv_ En.P 112 = some ⟨TK.sl 116 3 32 [V.i IntKind.i64 (0), V.s [], V.i IntKind.i64 (0)], 1, V.sl true []⟩ := by kernel_rfl
theorem alu_ : bp_ En.P 112 = V.sl true [] := by kernel_rfl
theorem al3_ : bv_ En.P 115 = some ⟨TK.st [(0, 1, false), (1, 1, false), (2, 1, false)], 3, V.ag [V.i IntKind.i64 (0), V.s [], V.i IntKind.i64 (0)]⟩ := by kernel_rfl
theorem am0_ : bp_ En.P 115 = V.ag [V.i IntKind.i64 (0), V.s [], V.i IntKind.i64 (0)] := by kernel_rfl
theorem am6_ : bv_ En.P 116 = some ⟨TK.st [(0, 1, false), (1, 1, false), (2, 1, false)], 3, V.ag [V.i IntKind.i64 (0), V.s [], V.i IntKind.i64 (0)]⟩ := by kernel_rfl
theorem ak6_ : bp_ En.P 116 = V.ag [V.i IntKind.i64 (0), V.s [], V.i IntKind.i64 (0)] := by kernel_rfl
theorem ak5_ : bv_ En.P 121 = some ⟨TK.other, 1, V.np⟩ := by kernel_rfl
theorem ak7_ : bp_ En.P 121 = V.np := by kernel_rfl
theorem ald_ : bv_ En.P 122 = some ⟨TK.st [(0, 1, false), (1, 1, false)], 2, V.ag [V.np, V.sl true []]⟩ := by kernel_rfl
theorem am3_ : bp_ En.P 122 = V.ag [V.np, V.sl true []] := by kernel_rfl
theorem al8_ : bv_ En.P 123 = some ⟨TK.st [(0, 1, false), (1, 1, false)], 2, V.ag [V.np, V.sl true []]⟩ := by kernel_rfl
theorem alx_ : bp_ En.P 123 = V.ag [V.np, V.sl true []] := by kernel_rfl
theorem amh_ : bv_ En.P 131 = some ⟨TK.sl 135 2 24 [V.s [], V.i IntKind.i64 (0)], 1, V.sl true []⟩ := by kernel_rfl
theorem amb_ : bp_ En.P 131 = V.sl true [] := by kernel_rfl
theorem ami_ : bv_ En.P 134 = some ⟨TK.st [(0, 1, false), (1, 1, false)], 2, V.ag [V.s [], V.i IntKind.i64 (0)]⟩ := by kernel_rfl
theorem am1_ : bp_ En.P 134 = V.ag [V.s [], V.i IntKind.i64 (0)] := by kernel_rfl
theorem alp_ : bv_ En.P 135 = some ⟨TK.st [(0, 1, false), (1, 1, false)], 2, V.ag [V.s [], V.i IntKind.i64 (0)]⟩ := by kernel_rfl
theorem am4_ : bp_ En.P 135 = V.ag [V.s [], V.i IntKind.i64 (0)] := by kernel_rfl
theorem amd_ : bv_ En.P 144 = some ⟨TK.other, 1, V.np⟩ := by kernel_rfl
theorem amy_ : bp_ En.P 144 = V.np := by kernel_rfl
theorem alj_ : bv_ En.P 155 = some ⟨TK.sl 24 1 24 [V.sl true []], 1, V.sl true []⟩ := by kernel_rfl
theorem ak1_ : bp_ En.P 155 = V.sl true [] := by kernel_rfl
theorem ak0_ : bv_ En.P 158 = some ⟨TK.other, 1, V.np⟩ := by kernel_rfl
theorem amu_ : bp_ En.P 158 = V.np := by kernel_rfl
theorem amm_ : bv_ En.P 163 = some ⟨TK.other, 1, V.np⟩ := by kernel_rfl
theorem am5_ : bp_ En.P 163 = V.np := by kernel_rfl
theorem amz_ : bv_ En.P 164 = some ⟨TK.st [(0, 1, false), (1, 1, false), (2, 1, false)], 3, V.ag [V.sl true [], V.b false, V.i IntKind.i64 (0)]⟩ := by kernel_rfl
theorem ak8_ : bp_ En.P 164 = V.ag [V.sl true [], V.b false, V.i IntKind.i64 (0)] := by kernel_rfl
theorem alq_ : bv_ En.P 165 = some ⟨TK.st [(0, 1, false), (1, 1, false), (2, 1, false)], 3, V.ag [V.sl true [], V.b false, V.i IntKind.i64 (0)]⟩ := by kernel_rfl
theorem amg_ : bp_ En.P 165 = V.ag [V.sl true [], V.b false, V.i IntKind.i64 (0)] := by kernel_rfl
theorem aln_ : bv_ En.P 178 = some ⟨TK.other, 1, V.np⟩ := by kernel_rfl
theorem al7_ : bp_ En.P 178 = V.np := by kernel_rfl
theorem al4_ : bv_ En.P 192 = some ⟨TK.int IntKind.u64, 1, V.i IntKind.u64 (0)⟩ := by kernel_rfl
theorem al0_ : bp_ En.P 192 = V.i IntKind.u64 (0) := by kernel_rfl
theorem alv_ : bv_ En.P 198 = some ⟨TK.int IntKind.u32, 1, V.i IntKind.u32 (0)⟩ := by kernel_rfl
theorem ak9_ : bp_ En.P 198 = V.i IntKind.u32 (0) := by kernel_rfl
theorem als_ : bv_ En.P 203 = some ⟨TK.st [(0, 1, false), (1, 1, false)], 2, V.ag [V.i IntKind.u8 (0), V.i IntKind.u8 (0)]⟩ := by kernel_rfl
theorem all_ : bp_ En.P 203 = V.ag [V.i IntKind.u8 (0), V.i IntKind.u8 (0)] := by kernel_rfl
theorem alm_ : bv_ En.P 204 = some ⟨TK.st [(0, 1, false), (1, 1, false)], 2, V.ag [V.i IntKind.u8 (0), V.i IntKind.u8 (0)]⟩ := by kernel_rfl
theorem ame_ : bp_ En.P 204 = V.ag [V.i IntKind.u8 (0), V.i IntKind.u8 (0)] := by kernel_rfl
theorem amt_ : bv_ En.P 208 = some ⟨TK.int IntKind.u64, 1, V.i IntKind.u64 (0)⟩ := by kernel_rfl
theorem ams_ : bp_ En.P 208 = V.i IntKind.u64 (0) := by kernel_rfl
theorem amk_ : bv_ En.P 213 = some ⟨TK.int IntKind.i64, 1, V.i IntKind.i64 (0)⟩ := by kernel_rfl
theorem alo_ : bp_ En.P 213 = V.i IntKind.i64 (0) := by kernel_rfl
theorem aml_ : bv_ En.P 216 = some ⟨TK.other, 1, V.np⟩ := by kernel_rfl
theorem alh_ : bp_ En.P 216 = V.np := by kernel_rfl
end
section
mutual
def eC : E → List V
 | .mk k n s kids => [.i .i64 k, .i .i64 n, .s s, .sl false (eR kids)]
def eR : List E → List (List V)
 | [] => []
 | e :: r => eC e :: eR r
end
theorem ba_ (e : E) : eC e = [.i .i64 e.kind, .i .i64 e.n, .s e.s, .sl false (eR e.kids)] := by cases e; simp only [eC, E.kind, E.n, E.s, E.kids]
theorem l9_ : ∀ l : List E, eR l = l.map eC
 | [] => by simp only [eR, List.map_nil]
 | e :: r => by simp only [eR, List.map_cons, l9_ r]
theorem mh_ (l : List E) : (eR l).length = l.length := by rw [l9_, List.length_map]
theorem dy_ {l : List E} {k : Nat} (h : k < l.length) : (eR l).getD k [] = eC (l.getD k E0) := by
 rw [l9_]; simp [T8_, T6_ h]
mutual
theorem ahe_ : ∀ e : E, cc_ (eC e) = true
 | .mk k n s kids => by simp only [eC, cc_, V.pure, hf_ kids, Bool.and_self]
theorem hf_ : ∀ l : List E, b5_ (eR l) = true
 | [] => by simp only [eR, b5_]
 | e :: r => by simp only [eR, b5_, ahe_ e, hf_ r, Bool.and_self]
end
def byR (b : Str) : List (List V) := b.map fun c => [.i .u8 c.toNat]
theorem ag0_ (b : Str) : (byR b).length = b.length := by simp [byR]
theorem uc_ : ∀ b : Str, b5_ (byR b) = true
 | [] => rfl
 | c :: b => by simp only [byR, List.map_cons, b5_, cc_, V.pure, Bool.true_and]; exact uc_ b
theorem ru_ {b : Str} {k : Nat} (h : k < b.length) : (byR b).getD k [] = [.i .u8 (b.getD k 0).toNat] := by
 simp [byR, T8_, T6_ h]
theorem afa_ (b : Str) (k : Nat) : (byR b).take k = byR (b.take k) := by simp [byR, List.map_take]
theorem am7_ (a b c : Nat) (d : List V) : (∃ el z y zc, some (TK.sl a b c d) = some (TK.sl el z y zc)) = True := eq_true ⟨a, b, c, d, rfl⟩
end
section
attribute [go_sem] lxs aew_ gE gO evO obO ac5_ ab9_ St.pv St.ev peel dr_ pcB Op.operands Call.operands V.ofConst V.ofConst1 nm aiz_ ai7_ qq_ ad1_ aix_ idxV idxC maxV minV kj_ hc_ r3_ wg_ TK.agg ai4_ x3_ ur_ zq_ tm_ z0_ rr_ zg_ tf_ r6_ aunV aunC mk_ ldV ldC cr_ stV okC stC fldV fldC ixaV ixaC mx_ iy_ f4_ isC nb_ extV extC z3_ lenC slcV slcC bndC ioV pk_ appC xi_ mkE V.one V.cells isB g5_ fl_ aav_ x0_ r2_ w4_ wrL nt_ fn_ i9_ rnB rn rns rnr a5_ bu_ aja_ cf_ rz_ xs_ ajd_ ai3_ aiw_ z1_ l3_ x8_ nilO nilV q8_ aba_ afj_ List.head?_cons List.head?_nil pg_ n6_ ua_ lend les leV ler gz_ ff_ be_ bsO bsE cvO cvV gj_ frz gd_ lg_ frzB md_ ah_ ap_ cc_ b5_ V.pure cls clr V.cl mt_ V.flat us List.getD_cons_zero List.getD_cons_succ List.getD_nil List.set_cons_zero List.set_cons_succ List.set_nil List.getElem?_cons_zero List.getElem?_cons_succ List.getElem?_nil Option.map_some Option.map_none Option.bind_some Option.bind_none Option.getD_some Option.getD_none Option.isSome_some Option.isNone_none Option.isNone_some Option.toArray_some Option.toArray_none List.toList_toArray List.map_cons List.map_nil List.append_nil List.nil_append List.cons_append List.all_cons List.all_nil List.all_append List.isEmpty_nil List.isEmpty_cons List.reverse_cons List.reverse_nil List.drop_zero List.drop_succ_cons List.drop_nil List.take_zero List.take_succ_cons List.take_nil T7_ List.length_nil List.zip_cons_cons List.zip_nil_left List.zip_nil_right List.flatMap_cons List.flatMap_nil List.replicate_succ List.replicate_zero Array.toList_append List.getElem?_toArray Array.getD_eq_getD_getElem? Bool.true_and Bool.and_true Bool.false_and Bool.and_false Bool.not_true Bool.not_false Bool.and_self beq_self_eq_true and_true true_and and_self cond_true cond_false if_true if_false ite_true ite_false decide_true decide_false Bool.decide_eq_true true_implies implies_true imp_self Nat.zero_add Nat.le_refl Nat.add_zero Nat.zero_mul Int.toNat_zero List.contains_nil List.contains_cons Bool.or_false Bool.or_true Bool.false_or Bool.true_or T9_ Ta_ eq_self List.append_toArray Bool.false_eq_true Array.size_empty List.push_toArray List.size_toArray Array.toList_map Array.toList_empty Bool.cond_false_right Bool.cond_true_left beq_true beq_false Int.toNat_natCast ab_ aa_ jr_ ca_ p0_ mq_ ba_ mh_ hf_ akr_ ag0_ uc_ afa_ am7_ ifO maxO afw_ aaf_ afi_ afl_ aj1_ aib_ akb_ ty2 zo2 ty3 zo3 ty4 zo4 ty5 zo5 ty6 zo6 ty7 zo7 ty8 zo8 ty9 zo9 ty10 zo10 ty11 zo11 ty12 zo12 ty13 zo13 ty14 zo14 ty15 zo15 ty16 zo16 ty17 zo17 ty18 zo18 ty19 zo19 ty21 zo21 ty22 zo22 ty24 zo24 ty27 zo27 ty30 zo30 ty36 zo36 ty46 zo46 ty47 zo47 ty51 zo51 ty52 zo52 ty53 zo53 ty54 zo54 ty55 zo55 ty59 zo59 ty62 zo62 ty63 zo63 ty64 zo64 ty65 zo65 ty66 zo66 ty91 zo91 ty92 zo92 amo_ alr_ alc_ ama_ amn_ ala_ amp_ alz_ alb_ alf_ al2_ alu_ al3_ am0_ am6_ ak6_ ak5_ ak7_ ald_ am3_ al8_ alx_ amh_ amb_ ami_ am1_ alp_ am4_ amd_ amy_ alj_ ak1_ ak0_ amu_ amm_ am5_ amz_ ak8_ alq_ amg_ aln_ al7_ al4_ al0_ alv_ ak9_ als_ all_ alm_ ame_ amt_ ams_ amk_ alo_ aml_ alh_
end
end Go.Proofs.YtpikbndepapbhaaGreatDoor
