/- The program as an environment of the tree logic: what its package variables hold. Conditions: none. -/
import Derived.Test.YtpikbndepapbhabGreatDoorKb
import Derived.Test.YtpikbndepapbhabGreatDoorProg
import Derived.Test.YtpikbndepapbhabGreatDoorKc
import Derived.Lib.LaidTab
set_option linter.unusedVariables false
set_option linter.unusedSimpArgs false
namespace Go.Proofs.YtpikbndepapbhabGreatDoor
section
open Go.RowKit
def ownW : List Str := [[108, 101, 116], [115, 97, 121], [119, 104, 101, 110], [97, 115], [112, 114, 105, 110, 116], [105, 102], [105, 110, 116], [98, 111, 111, 108]]
def bl_ (l : List Str) : List (List V) := l.map fun s => [.s s]
theorem ac_ (l : List Str) : (bl_ l).length = l.length := by simp [bl_]
theorem cc_ {l : List Str} {k : Nat} (h : k < l.length) : (bl_ l).getD k [] = [.s (l.getD k [])] := by
 simp [bl_, T8_, T6_ h]
theorem aa_ : ∀ l : List Str, b3_ (bl_ l) = true
 | [] => rfl
 | s :: l => by simp only [bl_, List.map_cons, b3_, cd_, V.pure, Bool.true_and]; exact aa_ l
structure Gl (B : Nat) (w : World) : Prop where
 tab : Lib.TabIs Tryz.prog w "internal/strconv.uint64pow10" .u64 Lib.pow10Tab
 syn : ∃ tp p, w.var? Tryz.prog "strconv.ErrSyntax" = some #[.iface tp p]
 rng : ∃ tp p, w.var? Tryz.prog "strconv.ErrRange" = some #[.iface tp p]
 maxl : ∃ m : Int, w.cell? ⟨1, 0, none⟩ = some (.int .i64 m)
 many : 6 < B ∧ 4 < B ∧ 5 < B ∧ 1 < B
theorem mp_ {P : Program} {B g : Nat} {W W' : World} {n : String} {cs : Array Value} (h : ∀ g, g < B → W'.heap[g]? = W.heap[g]?) (hg : P.globalNamed n = some g) (hgB : g < B) (hv : W.var? P n = some cs) : W'.var? P n = some cs := by
 unfold World.var? at hv ⊢
 simp only [hg, Option.bind_some] at hv ⊢
 rw [h g hgB]
 exact hv
theorem gTab : Tryz.prog.globalNamed "internal/strconv.uint64pow10" = some 6 := by kernel_rfl
theorem gSyn : Tryz.prog.globalNamed "strconv.ErrSyntax" = some 4 := by kernel_rfl
theorem gRng : Tryz.prog.globalNamed "strconv.ErrRange" = some 5 := by kernel_rfl
theorem Gl.same {B : Nat} {w w' : World} (h : Gl B w) (hb : ∀ g, g < B → w'.heap[g]? = w.heap[g]?) : Gl B w' := by
 obtain ⟨m1, m2, m3, m4⟩ := h.many
 obtain ⟨m, hm⟩ := h.maxl
 obtain ⟨t1, p1, s1⟩ := h.syn
 obtain ⟨t2, p2, s2⟩ := h.rng
 exact ⟨mp_ hb gTab m1 h.tab, ⟨t1, p1, mp_ hb gSyn m2 s1⟩, ⟨t2, p2, mp_ hb gRng m3 s2⟩, ⟨m, by unfold World.cell? at hm ⊢; rw [hb _ m4]; exact hm⟩, h.many⟩
noncomputable def En : Env := ⟨Tryz.prog, fun g => if g = 0 then some [.sl false (bl_ ownW)] else none, Gl, fun _ _ _ h hb => h.same hb⟩
theorem ajd_ : En.G 0 = some [.sl false (bl_ ownW)] := rfl
theorem enM : En.P.follows .mixedOrders = true := by kernel_rfl
end
section
theorem ty2 : bt_ En.P 2 = some ⟨TK.int IntKind.i64, 1, V.i IntKind.i64 (0)⟩ := by kernel_rfl
theorem zo2 : bn_ En.P 2 = V.i IntKind.i64 (0) := by kernel_rfl
theorem ty3 : bt_ En.P 3 = some ⟨TK.int IntKind.i64, 1, V.i IntKind.i64 (0)⟩ := by kernel_rfl
theorem zo3 : bn_ En.P 3 = V.i IntKind.i64 (0) := by kernel_rfl
theorem ty4 : bt_ En.P 4 = some ⟨TK.bool, 1, V.b false⟩ := by kernel_rfl
theorem zo4 : bn_ En.P 4 = V.b false := by kernel_rfl
theorem ty5 : bt_ En.P 5 = some ⟨TK.int IntKind.u8, 1, V.i IntKind.u8 (0)⟩ := by kernel_rfl
theorem zo5 : bn_ En.P 5 = V.i IntKind.u8 (0) := by kernel_rfl
theorem ty6 : bt_ En.P 6 = some ⟨TK.int IntKind.u8, 1, V.i IntKind.u8 (0)⟩ := by kernel_rfl
theorem zo6 : bn_ En.P 6 = V.i IntKind.u8 (0) := by kernel_rfl
theorem ty7 : bt_ En.P 7 = some ⟨TK.st [(0, 1, false), (1, 1, false), (2, 1, false), (3, 1, false)], 4, V.ag [V.i IntKind.i64 (0), V.i IntKind.i64 (0), V.b false, V.i IntKind.u8 (0)]⟩ := by kernel_rfl
theorem zo7 : bn_ En.P 7 = V.ag [V.i IntKind.i64 (0), V.i IntKind.i64 (0), V.b false, V.i IntKind.u8 (0)] := by kernel_rfl
theorem ty8 : bt_ En.P 8 = some ⟨TK.st [(0, 1, false), (1, 1, false), (2, 1, false), (3, 1, false)], 4, V.ag [V.i IntKind.i64 (0), V.i IntKind.i64 (0), V.b false, V.i IntKind.u8 (0)]⟩ := by kernel_rfl
theorem zo8 : bn_ En.P 8 = V.ag [V.i IntKind.i64 (0), V.i IntKind.i64 (0), V.b false, V.i IntKind.u8 (0)] := by kernel_rfl
theorem ty9 : bt_ En.P 9 = some ⟨TK.str, 1, V.s []⟩ := by kernel_rfl
theorem zo9 : bn_ En.P 9 = V.s [] := by kernel_rfl
theorem ty10 : bt_ En.P 10 = some ⟨TK.str, 1, V.s []⟩ := by kernel_rfl
theorem zo10 : bn_ En.P 10 = V.s [] := by kernel_rfl
theorem ty11 : bt_ En.P 11 = some ⟨TK.str, 1, V.s []⟩ := by kernel_rfl
theorem zo11 : bn_ En.P 11 = V.s [] := by kernel_rfl
theorem ty12 : bt_ En.P 12 = some ⟨TK.int IntKind.u64, 1, V.i IntKind.u64 (0)⟩ := by kernel_rfl
theorem zo12 : bn_ En.P 12 = V.i IntKind.u64 (0) := by kernel_rfl
theorem ty13 : bt_ En.P 13 = some ⟨TK.st [(0, 1, false), (1, 1, false)], 2, V.ag [V.s [], V.i IntKind.u64 (0)]⟩ := by kernel_rfl
theorem zo13 : bn_ En.P 13 = V.ag [V.s [], V.i IntKind.u64 (0)] := by kernel_rfl
theorem ty14 : bt_ En.P 14 = some ⟨TK.st [(0, 1, false), (1, 1, false)], 2, V.ag [V.s [], V.i IntKind.u64 (0)]⟩ := by kernel_rfl
theorem zo14 : bn_ En.P 14 = V.ag [V.s [], V.i IntKind.u64 (0)] := by kernel_rfl
theorem ty15 : bt_ En.P 15 = some ⟨TK.other, 1, V.np⟩ := by kernel_rfl
theorem zo15 : bn_ En.P 15 = V.np := by kernel_rfl
theorem ty16 : bt_ En.P 16 = some ⟨TK.other, 1, V.np⟩ := by kernel_rfl
theorem zo16 : bn_ En.P 16 = V.np := by kernel_rfl
theorem ty17 : bt_ En.P 17 = some ⟨TK.other, 1, V.np⟩ := by kernel_rfl
theorem zo17 : bn_ En.P 17 = V.np := by kernel_rfl
theorem ty18 : bt_ En.P 18 = some ⟨TK.st [(0, 1, false)], 1, V.ag [V.np]⟩ := by kernel_rfl
theorem zo18 : bn_ En.P 18 = V.ag [V.np] := by kernel_rfl
theorem ty19 : bt_ En.P 19 = some ⟨TK.st [(0, 1, false)], 1, V.ag [V.np]⟩ := by kernel_rfl
theorem zo19 : bn_ En.P 19 = V.ag [V.np] := by kernel_rfl
theorem ty21 : bt_ En.P 21 = some ⟨TK.int IntKind.i32, 1, V.i IntKind.i32 (0)⟩ := by kernel_rfl
theorem zo21 : bn_ En.P 21 = V.i IntKind.i32 (0) := by kernel_rfl
theorem ty22 : bt_ En.P 22 = some ⟨TK.sl 5 1 1 [V.i IntKind.u8 (0)], 1, V.sl true []⟩ := by kernel_rfl
theorem zo22 : bn_ En.P 22 = V.sl true [] := by kernel_rfl
theorem ty23 : bt_ En.P 23 = some ⟨TK.sl 35 10 136 [V.i IntKind.i64 (0), V.s [], V.i IntKind.i64 (0), V.i IntKind.i64 (0), V.s [], V.sl true [], V.i IntKind.i64 (0), V.i IntKind.i64 (0), V.s [], V.sl true []], 1, V.sl true []⟩ := by kernel_rfl
theorem zo23 : bn_ En.P 23 = V.sl true [] := by kernel_rfl
theorem ty25 : bt_ En.P 25 = some ⟨TK.sl 3 1 8 [V.i IntKind.i64 (0)], 1, V.sl true []⟩ := by kernel_rfl
theorem zo25 : bn_ En.P 25 = V.sl true [] := by kernel_rfl
theorem ty31 : bt_ En.P 31 = some ⟨TK.sl 33 4 56 [V.i IntKind.i64 (0), V.i IntKind.i64 (0), V.s [], V.sl true []], 1, V.sl true []⟩ := by kernel_rfl
theorem zo31 : bn_ En.P 31 = V.sl true [] := by kernel_rfl
theorem ty32 : bt_ En.P 32 = some ⟨TK.st [(0, 1, false), (1, 1, false), (2, 1, false), (3, 1, false)], 4, V.ag [V.i IntKind.i64 (0), V.i IntKind.i64 (0), V.s [], V.sl true []]⟩ := by kernel_rfl
theorem zo32 : bn_ En.P 32 = V.ag [V.i IntKind.i64 (0), V.i IntKind.i64 (0), V.s [], V.sl true []] := by kernel_rfl
theorem ty33 : bt_ En.P 33 = some ⟨TK.st [(0, 1, false), (1, 1, false), (2, 1, false), (3, 1, false)], 4, V.ag [V.i IntKind.i64 (0), V.i IntKind.i64 (0), V.s [], V.sl true []]⟩ := by kernel_rfl
theorem zo33 : bn_ En.P 33 = V.ag [V.i IntKind.i64 (0), V.i IntKind.i64 (0), V.s [], V.sl true []] := by kernel_rfl
theorem ty34 : bt_ En.P 34 = some ⟨TK.st [(0, 1, false), (1, 1, false), (2, 4, true), (6, 4, true)], 10, V.ag [V.i IntKind.i64 (0), V.s [], V.i IntKind.i64 (0), V.i IntKind.i64 (0), V.s [], V.sl true [], V.i IntKind.i64 (0), V.i IntKind.i64 (0), V.s [], V.sl true []]⟩ := by kernel_rfl
theorem zo34 : bn_ En.P 34 = V.ag [V.i IntKind.i64 (0), V.s [], V.i IntKind.i64 (0), V.i IntKind.i64 (0), V.s [], V.sl true [], V.i IntKind.i64 (0), V.i IntKind.i64 (0), V.s [], V.sl true []] := by kernel_rfl
theorem ty35 : bt_ En.P 35 = some ⟨TK.st [(0, 1, false), (1, 1, false), (2, 4, true), (6, 4, true)], 10, V.ag [V.i IntKind.i64 (0), V.s [], V.i IntKind.i64 (0), V.i IntKind.i64 (0), V.s [], V.sl true [], V.i IntKind.i64 (0), V.i IntKind.i64 (0), V.s [], V.sl true []]⟩ := by kernel_rfl
theorem zo35 : bn_ En.P 35 = V.ag [V.i IntKind.i64 (0), V.s [], V.i IntKind.i64 (0), V.i IntKind.i64 (0), V.s [], V.sl true [], V.i IntKind.i64 (0), V.i IntKind.i64 (0), V.s [], V.sl true []] := by kernel_rfl
theorem ty47 : bt_ En.P 47 = some ⟨TK.st [(0, 1, false), (1, 1, false), (2, 1, false), (3, 1, false)], 4, V.ag [V.s [], V.b false, V.s [], V.sl true []]⟩ := by kernel_rfl
theorem zo47 : bn_ En.P 47 = V.ag [V.s [], V.b false, V.s [], V.sl true []] := by kernel_rfl
theorem ty48 : bt_ En.P 48 = some ⟨TK.st [(0, 1, false), (1, 1, false), (2, 1, false), (3, 1, false)], 4, V.ag [V.s [], V.b false, V.s [], V.sl true []]⟩ := by kernel_rfl
theorem zo48 : bn_ En.P 48 = V.ag [V.s [], V.b false, V.s [], V.sl true []] := by kernel_rfl
theorem ty53 : bt_ En.P 53 = some ⟨TK.sl 48 4 64 [V.s [], V.b false, V.s [], V.sl true []], 1, V.sl true []⟩ := by kernel_rfl
theorem zo53 : bn_ En.P 53 = V.sl true [] := by kernel_rfl
theorem ty54 : bt_ En.P 54 = some ⟨TK.st [(0, 1, false), (1, 1, false), (2, 1, false), (3, 4, true), (7, 4, true)], 11, V.ag [V.i IntKind.i64 (0), V.s [], V.s [], V.i IntKind.i64 (0), V.i IntKind.i64 (0), V.s [], V.sl true [], V.i IntKind.i64 (0), V.i IntKind.i64 (0), V.s [], V.sl true []]⟩ := by kernel_rfl
theorem zo54 : bn_ En.P 54 = V.ag [V.i IntKind.i64 (0), V.s [], V.s [], V.i IntKind.i64 (0), V.i IntKind.i64 (0), V.s [], V.sl true [], V.i IntKind.i64 (0), V.i IntKind.i64 (0), V.s [], V.sl true []] := by kernel_rfl
theorem ty55 : bt_ En.P 55 = some ⟨TK.st [(0, 1, false), (1, 1, false), (2, 1, false), (3, 4, true), (7, 4, true)], 11, V.ag [V.i IntKind.i64 (0), V.s [], V.s [], V.i IntKind.i64 (0), V.i IntKind.i64 (0), V.s [], V.sl true [], V.i IntKind.i64 (0), V.i IntKind.i64 (0), V.s [], V.sl true []]⟩ := by kernel_rfl
theorem zo55 : bn_ En.P 55 = V.ag [V.i IntKind.i64 (0), V.s [], V.s [], V.i IntKind.i64 (0), V.i IntKind.i64 (0), V.s [], V.sl true [], V.i IntKind.i64 (0), V.i IntKind.i64 (0), V.s [], V.sl true []] := by kernel_rfl
theorem ty62 : bt_ En.P 62 = some ⟨TK.sl 100 4 64 [V.s [], V.b false, V.s [], V.sl true []], 1, V.sl true []⟩ := by kernel_rfl
theorem zo62 : bn_ En.P 62 = V.sl true [] := by kernel_rfl
theorem ty68 : bt_ En.P 68 = some ⟨TK.other, 1, V.np⟩ := by kernel_rfl
theorem zo68 : bn_ En.P 68 = V.np := by kernel_rfl
theorem ty70 : bt_ En.P 70 = some ⟨TK.sl 55 11 152 [V.i IntKind.i64 (0), V.s [], V.s [], V.i IntKind.i64 (0), V.i IntKind.i64 (0), V.s [], V.sl true [], V.i IntKind.i64 (0), V.i IntKind.i64 (0), V.s [], V.sl true []], 1, V.sl true []⟩ := by kernel_rfl
theorem zo70 : bn_ En.P 70 = V.sl true [] := by kernel_rfl
theorem ty76 : bt_ En.P 76 = some ⟨TK.sl 9 1 16 [V.s []], 1, V.sl true []⟩ := by kernel_rfl
theorem zo76 : bn_ En.P 76 = V.sl true [] := by kernel_rfl
theorem ak3_ : bt_ En.P 100 = some ⟨TK.st [(0, 1, false), (1, 1, false), (2, 1, false), (3, 1, false)], 4, V.ag [V.s [], V.b false, V.s [], V.sl true []]⟩ := by kernel_rfl
theorem akd_ : bn_ En.P 100 = V.ag [V.s [], V.b false, V.s [], V.sl true []] := by kernel_rfl
theorem ak7_ : bt_ En.P 106 = some ⟨TK.st [(0, 1, false), (1, 1, false)], 2, V.ag [V.sl true [], V.i IntKind.i64 (0)]⟩ := by kernel_rfl
theorem alr_ : bn_ En.P 106 = V.ag [V.sl true [], V.i IntKind.i64 (0)] := by kernel_rfl
theorem aj7_ : bt_ En.P 107 = some ⟨TK.st [(0, 1, false), (1, 1, false)], 2, V.ag [V.sl true [], V.i IntKind.i64 (0)]⟩ := by kernel_rfl
theorem alu_ : bn_ En.P 107 = V.ag [V.sl true [], V.i IntKind.i64 (0)] := by kernel_rfl
theorem ak0_ : bt_ En.P 119 = some ⟨TK.sl 146 2 24 [V.s [], V.i IntKind.i64 (0)], 1, V.sl true []⟩ := by kernel_rfl
theorem al6_ : bn_ En.P 119 = V.sl true [] := by kernel_rfl
theorem als_ : bt_ En.P 121 = some ⟨TK.sl 125 3 32 [V.i IntKind.i64 (0), V.s [], V.i IntKind.i64 (0)], 1, V.sl true []⟩ := by kernel_rfl
theorem ak1_ : bn_ En.P 121 = V.sl true [] := by kernel_rfl
theorem alq_ : bt_ En.P 124 = some ⟨TK.st [(0, 1, false), (1, 1, false), (2, 1, false)], 3, V.ag [V.i IntKind.i64 (0), V.s [], V.i IntKind.i64 (0)]⟩ := by kernel_rfl
theorem aka_ : bn_ En.P 124 = V.ag [V.i IntKind.i64 (0), V.s [], V.i IntKind.i64 (0)] := by kernel_rfl
theorem akp_ : bt_ En.P 125 = some ⟨TK.st [(0, 1, false), (1, 1, false), (2, 1, false)], 3, V.ag [V.i IntKind.i64 (0), V.s [], V.i IntKind.i64 (0)]⟩ := by kernel_rfl
theorem alh_ : bn_ En.P 125 = V.ag [V.i IntKind.i64 (0), V.s [], V.i IntKind.i64 (0)] := by kernel_rfl
theorem akm_ : bt_ En.P 137 = some ⟨TK.sl 141 2 24 [V.s [], V.i IntKind.i64 (0)], 1, V.sl true []⟩ := by kernel_rfl
theorem alf_ : bn_ En.P 137 = V.sl true [] := by kernel_rfl
theorem aj3_ : bt_ En.P 140 = some ⟨TK.st [(0, 1, false), (1, 1, false)], 2, V.ag [V.s [], V.i IntKind.i64 (0)]⟩ := by kernel_rfl
theorem aku_ : bn_ En.P 140 = V.ag [V.s [], V.i IntKind.i64 (0)] := by kernel_rfl
theorem akt_ : bt_ En.P 141 = some ⟨TK.st [(0, 1, false), (1, 1, false)], 2, V.ag [V.s [], V.i IntKind.i64 (0)]⟩ := by kernel_rfl
theorem alm_ : bn_ En.P 141 = V.ag [V.s [], V.i IntKind.i64 (0)] := by kernel_rfl
theorem ako_ : bt_ En.P 145 = some ⟨TK.st [(0, 1, false), (1, 1, false)], 2, V.ag [V.s [], V.i IntKind.i64 (0)]⟩ := by kernel_rfl
theorem akz_ : bn_ En.P 145 = V.ag [V.s [], V.i IntKind.i64 (0)] := by kernel_rfl
theorem akg_ : bt_ En.P 146 = some ⟨TK.st [(0, 1, false), (1, 1, false)], 2, V.ag [V.s [], V.i IntKind.i64 (0)]⟩ := by kernel_rfl
theorem alz_ : bn_ En.P 146 = V.ag [V.s [], V.i IntKind.i64 (0)] := by kernel_rfl
theorem aj8_ : bt_ En.P 156 = some ⟨TK.other, 1, V.np⟩ := by kernel_rfl
theorem aj5_ : bn_ En.P 156 = V.np := by kernel_rfl
theorem akc_ : bt_ En.P 161 = some ⟨TK.other, 1, V.np⟩ := by kernel_rfl
theorem aky_ : bn_ En.P 161 = V.np := by kernel_rfl
theorem al7_ : bt_ En.P 162 = some ⟨TK.st [(0, 1, false), (1, 1, false), (2, 1, false)], 3, V.ag [V.sl true [], V.b false, V.i IntKind.i64 (0)]⟩ := by kernel_rfl
theorem akl_ : bn_ En.P 162 = V.ag [V.sl true [], V.b false, V.i IntKind.i64 (0)] := by kernel_rfl
theorem alc_ : bt_ En.P 163 = some ⟨TK.st [(0, 1, false), (1, 1, false), (2, 1, false)], 3, V.ag [V.sl true [], V.b false, V.i IntKind.i64 (0)]⟩ := by kernel_rfl
theorem aln_ : bn_ En.P 163 = V.ag [V.sl true [], V.b false, V.i IntKind.i64 (0)] := by kernel_rfl
theorem akn_ : bt_ En.P 182 = some ⟨TK.other, 1, V.np⟩ := by kernel_rfl
theorem ale_ : bn_ En.P 182 = V.np := by kernel_rfl
theorem akk_ : bt_ En.P 183 = some ⟨TK.st [(0, 1, false), (1, 1, false)], 2, V.ag [V.np, V.sl true []]⟩ := by kernel_rfl
theorem alx_ : bn_ En.P 183 = V.ag [V.np, V.sl true []] := by kernel_rfl
theorem alw_ : bt_ En.P 184 = some ⟨TK.st [(0, 1, false), (1, 1, false)], 2, V.ag [V.np, V.sl true []]⟩ := by kernel_rfl
theorem aj6_ : bn_ En.P 184 = V.ag [V.np, V.sl true []] := by kernel_rfl
theorem ak2_ : bt_ En.P 197 = some ⟨TK.other, 1, V.np⟩ := by kernel_rfl
theorem alg_ : bn_ En.P 197 = V.np := by kernel_rfl
theorem ali_ : bt_ En.P 201 = some ⟨TK.int IntKind.u64, 1, V.i IntKind.u64 (0)⟩ := by kernel_rfl
theorem alk_ : bn_ En.P 201 = V.i IntKind.u64 (0) := by kernel_rfl
theorem ake_ : bt_ En.P 202 = some ⟨TK.other, 1, V.np⟩ := by kernel_rfl
theorem ak5_ : bn_ En.P 202 = V.np := by kernel_rfl
theorem aks_ : bt_ En.P 206 = some ⟨TK.int IntKind.i64, 1, V.i IntKind.i64 (0)⟩ := by kernel_rfl
theorem alo_ : bn_ En.P 206 = V.i IntKind.i64 (0) := by kernel_rfl
theorem akq_ : bt_ En.P 209 = some ⟨TK.other, 1, V.np⟩ := by kernel_rfl
theorem ak6_ : bn_ En.P 209 = V.np := by kernel_rfl
theorem akf_ : bt_ En.P 212 = some ⟨TK.int IntKind.u32, 1, V.i IntKind.u32 (0)⟩ := by kernel_rfl
theorem al1_ : bn_ En.P 212 = V.i IntKind.u32 (0) := by kernel_rfl
theorem akr_ : bt_ En.P 216 = some ⟨TK.st [(0, 1, false), (1, 1, false)], 2, V.ag [V.i IntKind.u8 (0), V.i IntKind.u8 (0)]⟩ := by kernel_rfl
theorem ak8_ : bn_ En.P 216 = V.ag [V.i IntKind.u8 (0), V.i IntKind.u8 (0)] := by kernel_rfl
theorem akj_ : bt_ En.P 217 = some ⟨TK.st [(0, 1, false), (1, 1, false)], 2, V.ag [V.i IntKind.u8 (0), V.i IntKind.u8 (0)]⟩ := by kernel_rfl
theorem alt_ : bn_ En.P 217 = V.ag [V.i IntKind.u8 (0), V.i IntKind.u8 (0)] := by kernel_rfl
theorem ak9_ : bt_ En.P 220 = some ⟨TK.int IntKind.u64, 1, V.i IntKind.u64 (0)⟩ := by kernel_rfl
theorem al0_ : bn_ En.P 220 = V.i IntKind.u64 (0) := by kernel_rfl
end
section
mutual
def eC : E → List V
 | .mk k n s kids => [.i .i64 k, .i .i64 n, .s s, .sl false (eR kids)]
def eR : List E → List (List V)
 | [] => []
 | e :: r => eC e :: eR r
end
theorem a7_ (e : E) : eC e = [.i .i64 e.kind, .i .i64 e.n, .s e.s, .sl false (eR e.kids)] := by cases e; simp only [eC, E.kind, E.n, E.s, E.kids]
theorem ml_ : ∀ l : List E, eR l = l.map eC
 | [] => by simp only [eR, List.map_nil]
 | e :: r => by simp only [eR, List.map_cons, ml_ r]
theorem ma_ (l : List E) : (eR l).length = l.length := by rw [ml_, List.length_map]
theorem du_ {l : List E} {k : Nat} (h : k < l.length) : (eR l).getD k [] = eC (l.getD k E0) := by
 rw [ml_]; simp [T8_, T6_ h]
mutual
theorem ahl_ : ∀ e : E, cd_ (eC e) = true
 | .mk k n s kids => by simp only [eC, cd_, V.pure, ig_ kids, Bool.and_self]
theorem ig_ : ∀ l : List E, b3_ (eR l) = true
 | [] => by simp only [eR, b3_]
 | e :: r => by simp only [eR, b3_, ahl_ e, ig_ r, Bool.and_self]
end
def byR (b : Str) : List (List V) := b.map fun c => [.i .u8 c.toNat]
theorem aft_ (b : Str) : (byR b).length = b.length := by simp [byR]
theorem vh_ : ∀ b : Str, b3_ (byR b) = true
 | [] => rfl
 | c :: b => by simp only [byR, List.map_cons, b3_, cd_, V.pure, Bool.true_and]; exact vh_ b
theorem r9_ {b : Str} {k : Nat} (h : k < b.length) : (byR b).getD k [] = [.i .u8 (b.getD k 0).toNat] := by
 simp [byR, T8_, T6_ h]
theorem aeg_ (b : Str) (k : Nat) : (byR b).take k = byR (b.take k) := by simp [byR, List.map_take]
theorem aj4_ (a b c : Nat) (d : List V) : (∃ el z y zc, some (TK.sl a b c d) = some (TK.sl el z y zc)) = True := eq_true ⟨a, b, c, d, rfl⟩
end
section
attribute [go_sem] lxs acm_ gE gO evO obO ae0_ abi_ St.pv St.ev peel dm_ pcB Op.operands Call.operands V.ofConst V.ofConst1 nm ah9_ ah7_ rl_ abo_ aif_ idxV idxC maxV minV kd_ g4_ sg_ s3_ TK.agg aia_ wb_ s9_ yb_ uo_ xh_ rb_ yy_ s2_ sd_ aunV aunC mr_ ldV ldC co_ stV okC stC fldV fldC ixaV ixaC nc_ ir_ fu_ isC nd_ extV extC lenV lenC zz_ slcC bndC ioV oi_ appC wj_ mkE V.one V.cells isB gs_ fc_ aad_ v6_ lo_ we_ wrL ko_ fd_ i4_ rnB rn rns rnr a3_ br_ xr_ by_ xa_ s1_ aig_ aij_ ah6_ zw_ l6_ xq_ nilO nilV qo_ aam_ afm_ List.head?_cons List.head?_nil oz_ pn_ vw_ lend les leV ler gw_ fb_ bd_ bsO bsE cvO cvV gb_ frz f5_ kt_ frzB mw_ aj_ ao_ cd_ b3_ V.pure cls clr V.cl m8_ V.flat us List.getD_cons_zero List.getD_cons_succ List.getD_nil List.set_cons_zero List.set_cons_succ List.set_nil List.getElem?_cons_zero List.getElem?_cons_succ List.getElem?_nil Option.map_some Option.map_none Option.bind_some Option.bind_none Option.getD_some Option.getD_none Option.isSome_some Option.isNone_none Option.isNone_some Option.toArray_some Option.toArray_none List.toList_toArray List.map_cons List.map_nil List.append_nil List.nil_append List.cons_append List.all_cons List.all_nil List.all_append List.isEmpty_nil List.isEmpty_cons List.reverse_cons List.reverse_nil List.drop_zero List.drop_succ_cons List.drop_nil List.take_zero List.take_succ_cons List.take_nil T7_ List.length_nil List.zip_cons_cons List.zip_nil_left List.zip_nil_right List.flatMap_cons List.flatMap_nil List.replicate_succ List.replicate_zero Array.toList_append List.getElem?_toArray Array.getD_eq_getD_getElem? Bool.true_and Bool.and_true Bool.false_and Bool.and_false Bool.not_true Bool.not_false Bool.and_self beq_self_eq_true and_true true_and and_self cond_true cond_false if_true if_false ite_true ite_false decide_true decide_false Bool.decide_eq_true true_implies implies_true imp_self Nat.zero_add Nat.le_refl Nat.add_zero Nat.zero_mul Int.toNat_zero List.contains_nil List.contains_cons Bool.or_false Bool.or_true Bool.false_or Bool.true_or T9_ Ta_ eq_self List.append_toArray Bool.false_eq_true Array.size_empty List.push_toArray List.size_toArray Array.toList_map Array.toList_empty Bool.cond_false_right Bool.cond_true_left beq_true beq_false Int.toNat_natCast ac_ aa_ jj_ b8_ oq_ lt_ a7_ ma_ ig_ ajd_ aft_ vh_ aeg_ aj4_ ifO maxO aa3_ aa0_ ads_ adh_ ajz_ ag0_ ajm_ ty2 zo2 ty3 zo3 ty4 zo4 ty5 zo5 ty6 zo6 ty7 zo7 ty8 zo8 ty9 zo9 ty10 zo10 ty11 zo11 ty12 zo12 ty13 zo13 ty14 zo14 ty15 zo15 ty16 zo16 ty17 zo17 ty18 zo18 ty19 zo19 ty21 zo21 ty22 zo22 ty23 zo23 ty25 zo25 ty31 zo31 ty32 zo32 ty33 zo33 ty34 zo34 ty35 zo35 ty47 zo47 ty48 zo48 ty53 zo53 ty54 zo54 ty55 zo55 ty62 zo62 ty68 zo68 ty70 zo70 ty76 zo76 ak3_ akd_ ak7_ alr_ aj7_ alu_ ak0_ al6_ als_ ak1_ alq_ aka_ akp_ alh_ akm_ alf_ aj3_ aku_ akt_ alm_ ako_ akz_ akg_ alz_ aj8_ aj5_ akc_ aky_ al7_ akl_ alc_ aln_ akn_ ale_ akk_ alx_ alw_ aj6_ ak2_ alg_ ali_ alk_ ake_ ak5_ aks_ alo_ akq_ ak6_ akf_ al1_ akr_ ak8_ akj_ alt_ ak9_ al0_
end
end Go.Proofs.YtpikbndepapbhabGreatDoor
