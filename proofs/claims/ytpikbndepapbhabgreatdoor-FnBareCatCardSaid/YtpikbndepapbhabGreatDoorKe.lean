/- The program as an environment of the tree logic: what its package variables hold. Conditions: none. -/
import Derived.Test.YtpikbndepapbhabGreatDoorKb
import Derived.Test.YtpikbndepapbhabGreatDoorProg
import Derived.Test.YtpikbndepapbhabGreatDoorKc
import Derived.Lib.LaidTab
set_option linter.unusedVariables false
set_option linter.unusedSimpArgs false
namespace Go.Proofs.YtpikbndepapbhabGreatDoor
section
open Go.RowKit
def ownW : List Str := [[108, 101, 116], [115, 97, 121], [119, 104, 101, 110], [97, 115], [112, 114, 105, 110, 116], [105, 102], [105, 110, 116], [98, 111, 111, 108]]
def bi_ (l : List Str) : List (List V) := l.map fun s => [.s s]
theorem ab_ (l : List Str) : (bi_ l).length = l.length := by simp [bi_]
theorem cj_ {l : List Str} {k : Nat} (h : k < l.length) : (bi_ l).getD k [] = [.s (l.getD k [])] := by
 simp [bi_, T8_, T6_ h]
theorem aa_ : ∀ l : List Str, cd_ (bi_ l) = true
 | [] => rfl
 | s :: l => by simp only [bi_, List.map_cons, cd_, cw_, V.pure, Bool.true_and]; exact aa_ l
structure Gl (B : Nat) (w : World) : Prop where
 tab : Lib.TabIs Tryz.prog w "internal/strconv.uint64pow10" .u64 Lib.pow10Tab
 syn : ∃ tp p, w.var? Tryz.prog "strconv.ErrSyntax" = some #[.iface tp p]
 rng : ∃ tp p, w.var? Tryz.prog "strconv.ErrRange" = some #[.iface tp p]
 maxl : ∃ m : Int, w.cell? ⟨1, 0, none⟩ = some (.int .i64 m)
 many : 6 < B ∧ 4 < B ∧ 5 < B ∧ 1 < B
theorem lk_ {P : Program} {B g : Nat} {W W' : World} {n : String} {cs : Array Value} (h : ∀ g, g < B → W'.heap[g]? = W.heap[g]?) (hg : P.globalNamed n = some g) (hgB : g < B) (hv : W.var? P n = some cs) : W'.var? P n = some cs := by
 unfold World.var? at hv ⊢
 simp only [hg, Option.bind_some] at hv ⊢
 rw [h g hgB]
 exact hv
theorem gTab : Tryz.prog.globalNamed "internal/strconv.uint64pow10" = some 6 := by kernel_rfl
theorem gSyn : Tryz.prog.globalNamed "strconv.ErrSyntax" = some 4 := by kernel_rfl
theorem gRng : Tryz.prog.globalNamed "strconv.ErrRange" = some 5 := by kernel_rfl
theorem Gl.same {B : Nat} {w w' : World} (h : Gl B w) (hb : ∀ g, g < B → w'.heap[g]? = w.heap[g]?) : Gl B w' := by
 obtain ⟨m1, m2, m3, m4⟩ := h.many
 obtain ⟨m, hm⟩ := h.maxl
 obtain ⟨t1, p1, s1⟩ := h.syn
 obtain ⟨t2, p2, s2⟩ := h.rng
 exact ⟨lk_ hb gTab m1 h.tab, ⟨t1, p1, lk_ hb gSyn m2 s1⟩, ⟨t2, p2, lk_ hb gRng m3 s2⟩, ⟨m, by unfold World.cell? at hm ⊢; rw [hb _ m4]; exact hm⟩, h.many⟩
noncomputable def En : Env := ⟨Tryz.prog, fun g => if g = 0 then some [.sl false (bi_ ownW)] else none, Gl, fun _ _ _ h hb => h.same hb⟩
theorem ahs_ : En.G 0 = some [.sl false (bi_ ownW)] := rfl
theorem enM : En.P.follows .mixedOrders = true := by kernel_rfl
end
section
theorem ty2 : bs_ En.P 2 = some ⟨TK.int IntKind.i64, 1, V.i IntKind.i64 (0)⟩ := by kernel_rfl
theorem zo2 : bl_ En.P 2 = V.i IntKind.i64 (0) := by kernel_rfl
theorem ty3 : bs_ En.P 3 = some ⟨TK.int IntKind.i64, 1, V.i IntKind.i64 (0)⟩ := by kernel_rfl
theorem zo3 : bl_ En.P 3 = V.i IntKind.i64 (0) := by kernel_rfl
theorem ty4 : bs_ En.P 4 = some ⟨TK.bool, 1, V.b false⟩ := by kernel_rfl
theorem zo4 : bl_ En.P 4 = V.b false := by kernel_rfl
theorem ty5 : bs_ En.P 5 = some ⟨TK.int IntKind.u8, 1, V.i IntKind.u8 (0)⟩ := by kernel_rfl
theorem zo5 : bl_ En.P 5 = V.i IntKind.u8 (0) := by kernel_rfl
theorem ty6 : bs_ En.P 6 = some ⟨TK.int IntKind.u8, 1, V.i IntKind.u8 (0)⟩ := by kernel_rfl
theorem zo6 : bl_ En.P 6 = V.i IntKind.u8 (0) := by kernel_rfl
theorem ty7 : bs_ En.P 7 = some ⟨TK.st [(0, 1, false), (1, 1, false), (2, 1, false), (3, 1, false)], 4, V.ag [V.i IntKind.i64 (0), V.i IntKind.i64 (0), V.b false, V.i IntKind.u8 (0)]⟩ := by kernel_rfl
theorem zo7 : bl_ En.P 7 = V.ag [V.i IntKind.i64 (0), V.i IntKind.i64 (0), V.b false, V.i IntKind.u8 (0)] := by kernel_rfl
theorem ty8 : bs_ En.P 8 = some ⟨TK.st [(0, 1, false), (1, 1, false), (2, 1, false), (3, 1, false)], 4, V.ag [V.i IntKind.i64 (0), V.i IntKind.i64 (0), V.b false, V.i IntKind.u8 (0)]⟩ := by kernel_rfl
theorem zo8 : bl_ En.P 8 = V.ag [V.i IntKind.i64 (0), V.i IntKind.i64 (0), V.b false, V.i IntKind.u8 (0)] := by kernel_rfl
theorem ty9 : bs_ En.P 9 = some ⟨TK.str, 1, V.s []⟩ := by kernel_rfl
theorem zo9 : bl_ En.P 9 = V.s [] := by kernel_rfl
theorem ty10 : bs_ En.P 10 = some ⟨TK.str, 1, V.s []⟩ := by kernel_rfl
theorem zo10 : bl_ En.P 10 = V.s [] := by kernel_rfl
theorem ty11 : bs_ En.P 11 = some ⟨TK.str, 1, V.s []⟩ := by kernel_rfl
theorem zo11 : bl_ En.P 11 = V.s [] := by kernel_rfl
theorem ty12 : bs_ En.P 12 = some ⟨TK.int IntKind.u64, 1, V.i IntKind.u64 (0)⟩ := by kernel_rfl
theorem zo12 : bl_ En.P 12 = V.i IntKind.u64 (0) := by kernel_rfl
theorem ty13 : bs_ En.P 13 = some ⟨TK.st [(0, 1, false), (1, 1, false)], 2, V.ag [V.s [], V.i IntKind.u64 (0)]⟩ := by kernel_rfl
theorem zo13 : bl_ En.P 13 = V.ag [V.s [], V.i IntKind.u64 (0)] := by kernel_rfl
theorem ty14 : bs_ En.P 14 = some ⟨TK.st [(0, 1, false), (1, 1, false)], 2, V.ag [V.s [], V.i IntKind.u64 (0)]⟩ := by kernel_rfl
theorem zo14 : bl_ En.P 14 = V.ag [V.s [], V.i IntKind.u64 (0)] := by kernel_rfl
theorem ty15 : bs_ En.P 15 = some ⟨TK.other, 1, V.np⟩ := by kernel_rfl
theorem zo15 : bl_ En.P 15 = V.np := by kernel_rfl
theorem ty16 : bs_ En.P 16 = some ⟨TK.other, 1, V.np⟩ := by kernel_rfl
theorem zo16 : bl_ En.P 16 = V.np := by kernel_rfl
theorem ty17 : bs_ En.P 17 = some ⟨TK.other, 1, V.np⟩ := by kernel_rfl
theorem zo17 : bl_ En.P 17 = V.np := by kernel_rfl
theorem ty18 : bs_ En.P 18 = some ⟨TK.st [(0, 1, false)], 1, V.ag [V.np]⟩ := by kernel_rfl
theorem zo18 : bl_ En.P 18 = V.ag [V.np] := by kernel_rfl
theorem ty19 : bs_ En.P 19 = some ⟨TK.st [(0, 1, false)], 1, V.ag [V.np]⟩ := by kernel_rfl
theorem zo19 : bl_ En.P 19 = V.ag [V.np] := by kernel_rfl
theorem ty21 : bs_ En.P 21 = some ⟨TK.int IntKind.i32, 1, V.i IntKind.i32 (0)⟩ := by kernel_rfl
theorem zo21 : bl_ En.P 21 = V.i IntKind.i32 (0) := by kernel_rfl
theorem ty22 : bs_ En.P 22 = some ⟨TK.sl 5 1 1 [V.i IntKind.u8 (0)], 1, V.sl true []⟩ := by kernel_rfl
theorem zo22 : bl_ En.P 22 = V.sl true [] := by kernel_rfl
theorem ty23 : bs_ En.P 23 = some ⟨TK.sl 35 10 136 [V.i IntKind.i64 (0), V.s [], V.i IntKind.i64 (0), V.i IntKind.i64 (0), V.s [], V.sl true [], V.i IntKind.i64 (0), V.i IntKind.i64 (0), V.s [], V.sl true []], 1, V.sl true []⟩ := by kernel_rfl
theorem zo23 : bl_ En.P 23 = V.sl true [] := by kernel_rfl
theorem ty25 : bs_ En.P 25 = some ⟨TK.sl 3 1 8 [V.i IntKind.i64 (0)], 1, V.sl true []⟩ := by kernel_rfl
theorem zo25 : bl_ En.P 25 = V.sl true [] := by kernel_rfl
theorem ty31 : bs_ En.P 31 = some ⟨TK.sl 33 4 56 [V.i IntKind.i64 (0), V.i IntKind.i64 (0), V.s [], V.sl true []], 1, V.sl true []⟩ := by kernel_rfl
theorem zo31 : bl_ En.P 31 = V.sl true [] := by kernel_rfl
theorem ty32 : bs_ En.P 32 = some ⟨TK.st [(0, 1, false), (1, 1, false), (2, 1, false), (3, 1, false)], 4, V.ag [V.i IntKind.i64 (0), V.i IntKind.i64 (0), V.s [], V.sl true []]⟩ := by kernel_rfl
theorem zo32 : bl_ En.P 32 = V.ag [V.i IntKind.i64 (0), V.i IntKind.i64 (0), V.s [], V.sl true []] := by kernel_rfl
theorem ty33 : bs_ En.P 33 = some ⟨TK.st [(0, 1, false), (1, 1, false), (2, 1, false), (3, 1, false)], 4, V.ag [V.i IntKind.i64 (0), V.i IntKind.i64 (0), V.s [], V.sl true []]⟩ := by kernel_rfl
theorem zo33 : bl_ En.P 33 = V.ag [V.i IntKind.i64 (0), V.i IntKind.i64 (0), V.s [], V.sl true []] := by kernel_rfl
theorem ty34 : bs_ En.P 34 = some ⟨TK.st [(0, 1, false), (1, 1, false), (2, 4, true), (6, 4, true)], 10, V.ag [V.i IntKind.i64 (0), V.s [], V.i IntKind.i64 (0), V.i IntKind.i64 (0), V.s [], V.sl true [], V.i IntKind.i64 (0), V.i IntKind.i64 (0), V.s [], V.sl true []]⟩ := by kernel_rfl
theorem zo34 : bl_ En.P 34 = V.ag [V.i IntKind.i64 (0), V.s [], V.i IntKind.i64 (0), V.i IntKind.i64 (0), V.s [], V.sl true [], V.i IntKind.i64 (0), V.i IntKind.i64 (0), V.s [], V.sl true []] := by kernel_rfl
theorem ty35 : bs_ En.P 35 = some ⟨TK.st [(0, 1, false), (1, 1, false), (2, 4, true), (6, 4, true)], 10, V.ag [V.i IntKind.i64 (0), V.s [], V.i IntKind.i64 (0), V.i IntKind.i64 (0), V.s [], V.sl true [], V.i IntKind.i64 (0), V.i IntKind.i64 (0), V.s [], V.sl true []]⟩ := by kernel_rfl
theorem zo35 : bl_ En.P 35 = V.ag [V.i IntKind.i64 (0), V.s [], V.i IntKind.i64 (0), V.i IntKind.i64 (0), V.s [], V.sl true [], V.i IntKind.i64 (0), V.i IntKind.i64 (0), V.s [], V.sl true []] := by kernel_rfl
theorem ty47 : bs_ En.P 47 = some ⟨TK.st [(0, 1, false), (1, 1, false), (2, 1, false), (3, 1, false)], 4, V.ag [V.s [], V.b false, V.s [], V.sl true []]⟩ := by kernel_rfl
theorem zo47 : bl_ En.P 47 = V.ag [V.s [], V.b false, V.s [], V.sl true []] := by kernel_rfl
theorem ty48 : bs_ En.P 48 = some ⟨TK.st [(0, 1, false), (1, 1, false), (2, 1, false), (3, 1, false)], 4, V.ag [V.s [], V.b false, V.s [], V.sl true []]⟩ := by kernel_rfl
theorem zo48 : bl_ En.P 48 = V.ag [V.s [], V.b false, V.s [], V.sl true []] := by kernel_rfl
theorem ty53 : bs_ En.P 53 = some ⟨TK.sl 48 4 64 [V.s [], V.b false, V.s [], V.sl true []], 1, V.sl true []⟩ := by kernel_rfl
theorem zo53 : bl_ En.P 53 = V.sl true [] := by kernel_rfl
theorem ty54 : bs_ En.P 54 = some ⟨TK.st [(0, 1, false), (1, 1, false), (2, 1, false), (3, 4, true), (7, 4, true)], 11, V.ag [V.i IntKind.i64 (0), V.s [], V.s [], V.i IntKind.i64 (0), V.i IntKind.i64 (0), V.s [], V.sl true [], V.i IntKind.i64 (0), V.i IntKind.i64 (0), V.s [], V.sl true []]⟩ := by kernel_rfl
theorem zo54 : bl_ En.P 54 = V.ag [V.i IntKind.i64 (0), V.s [], V.s [], V.i IntKind.i64 (0), V.i IntKind.i64 (0), V.s [], V.sl true [], V.i IntKind.i64 (0), V.i IntKind.i64 (0), V.s [], V.sl true []] := by kernel_rfl
theorem ty55 : bs_ En.P 55 = some ⟨TK.st [(0, 1, false), (1, 1, false), (2, 1, false), (3, 4, true), (7, 4, true)], 11, V.ag [V.i IntKind.i64 (0), V.s [], V.s [], V.i IntKind.i64 (0), V.i IntKind.i64 (0), V.s [], V.sl true [], V.i IntKind.i64 (0), V.i IntKind.i64 (0), V.s [], V.sl true []]⟩ := by kernel_rfl
theorem zo55 : bl_ En.P 55 = V.ag [V.i IntKind.i64 (0), V.s [], V.s [], V.i IntKind.i64 (0), V.i IntKind.i64 (0), V.s [], V.sl true [], V.i IntKind.i64 (0), V.i IntKind.i64 (0), V.s [], V.sl true []] := by kernel_rfl
theorem ty62 : bs_ En.P 62 = some ⟨TK.sl 100 4 64 [V.s [], V.b false, V.s [], V.sl true []], 1, V.sl true []⟩ := by kernel_rfl
theorem zo62 : bl_ En.P 62 = V.sl true [] := by kernel_rfl
theorem ty68 : bs_ En.P 68 = some ⟨TK.other, 1, V.np⟩ := by kernel_rfl
theorem zo68 : bl_ En.P 68 = V.np := by kernel_rfl
theorem ty70 : bs_ En.P 70 = some ⟨TK.sl 55 11 152 [V.i IntKind.i64 (0), V.s [], V.s [], V.i IntKind.i64 (0), V.i IntKind.i64 (0), V.s [], V.sl true [], V.i IntKind.i64 (0), V.i IntKind.i64 (0), V.s [], V.sl true []], 1, V.sl true []⟩ := by kernel_rfl
theorem zo70 : bl_ En.P 70 = V.sl true [] := by kernel_rfl
theorem ty76 : bs_ En.P 76 = some ⟨TK.sl 9 1 16 [V.s []], 1, V.sl true []⟩ := by kernel_rfl
theorem zo76 : bl_ En.P 76 = V.sl true [] := by kernel_rfl
theorem aj7_ : bs_ En.P 100 = some ⟨TK.st [(0, 1, false), (1, 1, false), (2, 1, false), (3, 1, false)], 4, V.ag [V.s [], V.b false, V.s [], V.sl true []]⟩ := by kernel_rfl
theorem ais_ : bl_ En.P 100 = V.ag [V.s [], V.b false, V.s [], V.sl true []] := by kernel_rfl
theorem aje_ : bs_ En.P 106 = some ⟨TK.st [(0, 1, false), (1, 1, false)], 2, V.ag [V.sl true [], V.i IntKind.i64 (0)]⟩ := by kernel_rfl
theorem aju_ : bl_ En.P 106 = V.ag [V.sl true [], V.i IntKind.i64 (0)] := by kernel_rfl
theorem akk_ : bs_ En.P 107 = some ⟨TK.st [(0, 1, false), (1, 1, false)], 2, V.ag [V.sl true [], V.i IntKind.i64 (0)]⟩ := by kernel_rfl
theorem aih_ : bl_ En.P 107 = V.ag [V.sl true [], V.i IntKind.i64 (0)] := by kernel_rfl
theorem ajw_ : bs_ En.P 119 = some ⟨TK.sl 146 2 24 [V.s [], V.i IntKind.i64 (0)], 1, V.sl true []⟩ := by kernel_rfl
theorem aj5_ : bl_ En.P 119 = V.sl true [] := by kernel_rfl
theorem akj_ : bs_ En.P 121 = some ⟨TK.sl 125 3 32 [V.i IntKind.i64 (0), V.s [], V.i IntKind.i64 (0)], 1, V.sl true []⟩ := by kernel_rfl
theorem ajb_ : bl_ En.P 121 = V.sl true [] := by kernel_rfl
theorem akb_ : bs_ En.P 124 = some ⟨TK.st [(0, 1, false), (1, 1, false), (2, 1, false)], 3, V.ag [V.i IntKind.i64 (0), V.s [], V.i IntKind.i64 (0)]⟩ := by kernel_rfl
theorem aka_ : bl_ En.P 124 = V.ag [V.i IntKind.i64 (0), V.s [], V.i IntKind.i64 (0)] := by kernel_rfl
theorem aiw_ : bs_ En.P 125 = some ⟨TK.st [(0, 1, false), (1, 1, false), (2, 1, false)], 3, V.ag [V.i IntKind.i64 (0), V.s [], V.i IntKind.i64 (0)]⟩ := by kernel_rfl
theorem akf_ : bl_ En.P 125 = V.ag [V.i IntKind.i64 (0), V.s [], V.i IntKind.i64 (0)] := by kernel_rfl
theorem ai6_ : bs_ En.P 137 = some ⟨TK.sl 141 2 24 [V.s [], V.i IntKind.i64 (0)], 1, V.sl true []⟩ := by kernel_rfl
theorem aiz_ : bl_ En.P 137 = V.sl true [] := by kernel_rfl
theorem ajn_ : bs_ En.P 140 = some ⟨TK.st [(0, 1, false), (1, 1, false)], 2, V.ag [V.s [], V.i IntKind.i64 (0)]⟩ := by kernel_rfl
theorem aj4_ : bl_ En.P 140 = V.ag [V.s [], V.i IntKind.i64 (0)] := by kernel_rfl
theorem aji_ : bs_ En.P 141 = some ⟨TK.st [(0, 1, false), (1, 1, false)], 2, V.ag [V.s [], V.i IntKind.i64 (0)]⟩ := by kernel_rfl
theorem aja_ : bl_ En.P 141 = V.ag [V.s [], V.i IntKind.i64 (0)] := by kernel_rfl
theorem akn_ : bs_ En.P 145 = some ⟨TK.st [(0, 1, false), (1, 1, false)], 2, V.ag [V.s [], V.i IntKind.i64 (0)]⟩ := by kernel_rfl
theorem akh_ : bl_ En.P 145 = V.ag [V.s [], V.i IntKind.i64 (0)] := by kernel_rfl
theorem ait_ : bs_ En.P 146 = some ⟨TK.st [(0, 1, false), (1, 1, false)], 2, V.ag [V.s [], V.i IntKind.i64 (0)]⟩ := by kernel_rfl
theorem ajx_ : bl_ En.P 146 = V.ag [V.s [], V.i IntKind.i64 (0)] := by kernel_rfl
theorem aki_ : bs_ En.P 156 = some ⟨TK.other, 1, V.np⟩ := by kernel_rfl
theorem ajl_ : bl_ En.P 156 = V.np := by kernel_rfl
theorem ai4_ : bs_ En.P 161 = some ⟨TK.other, 1, V.np⟩ := by kernel_rfl
theorem aj8_ : bl_ En.P 161 = V.np := by kernel_rfl
theorem ajc_ : bs_ En.P 162 = some ⟨TK.st [(0, 1, false), (1, 1, false), (2, 1, false)], 3, V.ag [V.sl true [], V.b false, V.i IntKind.i64 (0)]⟩ := by kernel_rfl
theorem ai9_ : bl_ En.P 162 = V.ag [V.sl true [], V.b false, V.i IntKind.i64 (0)] := by kernel_rfl
theorem ail_ : bs_ En.P 163 = some ⟨TK.st [(0, 1, false), (1, 1, false), (2, 1, false)], 3, V.ag [V.sl true [], V.b false, V.i IntKind.i64 (0)]⟩ := by kernel_rfl
theorem aik_ : bl_ En.P 163 = V.ag [V.sl true [], V.b false, V.i IntKind.i64 (0)] := by kernel_rfl
theorem ajq_ : bs_ En.P 182 = some ⟨TK.other, 1, V.np⟩ := by kernel_rfl
theorem aio_ : bl_ En.P 182 = V.np := by kernel_rfl
theorem aiv_ : bs_ En.P 183 = some ⟨TK.st [(0, 1, false), (1, 1, false)], 2, V.ag [V.np, V.sl true []]⟩ := by kernel_rfl
theorem aj3_ : bl_ En.P 183 = V.ag [V.np, V.sl true []] := by kernel_rfl
theorem ajr_ : bs_ En.P 184 = some ⟨TK.st [(0, 1, false), (1, 1, false)], 2, V.ag [V.np, V.sl true []]⟩ := by kernel_rfl
theorem aig_ : bl_ En.P 184 = V.ag [V.np, V.sl true []] := by kernel_rfl
theorem ajd_ : bs_ En.P 197 = some ⟨TK.other, 1, V.np⟩ := by kernel_rfl
theorem aij_ : bl_ En.P 197 = V.np := by kernel_rfl
theorem ajp_ : bs_ En.P 201 = some ⟨TK.int IntKind.u64, 1, V.i IntKind.u64 (0)⟩ := by kernel_rfl
theorem ajy_ : bl_ En.P 201 = V.i IntKind.u64 (0) := by kernel_rfl
theorem ajh_ : bs_ En.P 202 = some ⟨TK.other, 1, V.np⟩ := by kernel_rfl
theorem air_ : bl_ En.P 202 = V.np := by kernel_rfl
theorem ajg_ : bs_ En.P 206 = some ⟨TK.int IntKind.i64, 1, V.i IntKind.i64 (0)⟩ := by kernel_rfl
theorem aj2_ : bl_ En.P 206 = V.i IntKind.i64 (0) := by kernel_rfl
theorem aj6_ : bs_ En.P 209 = some ⟨TK.other, 1, V.np⟩ := by kernel_rfl
theorem aip_ : bl_ En.P 209 = V.np := by kernel_rfl
theorem aim_ : bs_ En.P 212 = some ⟨TK.int IntKind.u32, 1, V.i IntKind.u32 (0)⟩ := by kernel_rfl
theorem ajm_ : bl_ En.P 212 = V.i IntKind.u32 (0) := by kernel_rfl
theorem ain_ : bs_ En.P 216 = some ⟨TK.st [(0, 1, false), (1, 1, false)], 2, V.ag [V.i IntKind.u8 (0), V.i IntKind.u8 (0)]⟩ := by kernel_rfl
theorem ai5_ : bl_ En.P 216 = V.ag [V.i IntKind.u8 (0), V.i IntKind.u8 (0)] := by kernel_rfl
theorem ai1_ : bs_ En.P 217 = some ⟨TK.st [(0, 1, false), (1, 1, false)], 2, V.ag [V.i IntKind.u8 (0), V.i IntKind.u8 (0)]⟩ := by kernel_rfl
theorem ajs_ : bl_ En.P 217 = V.ag [V.i IntKind.u8 (0), V.i IntKind.u8 (0)] := by kernel_rfl
theorem akm_ : bs_ En.P 220 = some ⟨TK.int IntKind.u64, 1, V.i IntKind.u64 (0)⟩ := by kernel_rfl
theorem ai7_ : bl_ En.P 220 = V.i IntKind.u64 (0) := by kernel_rfl
end
section
mutual
def eC : E → List V
 | .mk k n s kids => [.i .i64 k, .i .i64 n, .s s, .sl false (eR kids)]
def eR : List E → List (List V)
 | [] => []
 | e :: r => eC e :: eR r
end
theorem a4_ (e : E) : eC e = [.i .i64 e.kind, .i .i64 e.n, .s e.s, .sl false (eR e.kids)] := by cases e; simp only [eC, E.kind, E.n, E.s, E.kids]
theorem k9_ : ∀ l : List E, eR l = l.map eC
 | [] => by simp only [eR, List.map_nil]
 | e :: r => by simp only [eR, List.map_cons, k9_ r]
theorem jn_ (l : List E) : (eR l).length = l.length := by rw [k9_, List.length_map]
theorem da_ {l : List E} {k : Nat} (h : k < l.length) : (eR l).getD k [] = eC (l.getD k E0) := by
 rw [k9_]; simp [T8_, T6_ h]
mutual
theorem aem_ : ∀ e : E, cw_ (eC e) = true
 | .mk k n s kids => by simp only [eC, cw_, V.pure, fy_ kids, Bool.and_self]
theorem fy_ : ∀ l : List E, cd_ (eR l) = true
 | [] => by simp only [eR, cd_]
 | e :: r => by simp only [eR, cd_, aem_ e, fy_ r, Bool.and_self]
end
def byR (b : Str) : List (List V) := b.map fun c => [.i .u8 c.toNat]
theorem agc_ (b : Str) : (byR b).length = b.length := by simp [byR]
theorem sy_ : ∀ b : Str, cd_ (byR b) = true
 | [] => rfl
 | c :: b => by simp only [byR, List.map_cons, cd_, cw_, V.pure, Bool.true_and]; exact sy_ b
theorem q6_ {b : Str} {k : Nat} (h : k < b.length) : (byR b).getD k [] = [.i .u8 (b.getD k 0).toNat] := by
 simp [byR, T8_, T6_ h]
theorem adr_ (b : Str) (k : Nat) : (byR b).take k = byR (b.take k) := by simp [byR, List.map_take]
theorem aii_ (a b c : Nat) (d : List V) : (∃ el z y zc, some (TK.sl a b c d) = some (TK.sl el z y zc)) = True := eq_true ⟨a, b, c, d, rfl⟩
end
section
attribute [go_sem] lxs abs_ gE gO evO obO aar_ ace_ St.pv St.ev peel dr_ pcB Op.operands Call.operands V.ofConst V.ofConst1 nm agp_ agt_ ps_ abe_ agw_ idxV idxC maxV minV ko_ gm_ r2_ si_ TK.agg ago_ v6_ s9_ xx_ u7_ yf_ p3_ xg_ sf_ sa_ aunV aunC k0_ ldV ldC cp_ stV okC stC fldV fldC ixaV ixaC l1_ ic_ fj_ isC mc_ extV extC zk_ lenC zs_ slcC bndC ioV o0_ appC wh_ mkE V.one V.cells isB gb_ e6_ y1_ vx_ kn_ wb_ wrL kv_ e7_ h3_ rnB rn rns rnr a1_ bm_ ul_ ck_ o4_ vw_ akd_ aiu_ aj9_ y0_ lg_ xn_ nilO nilV le_ zt_ aat_ List.head?_cons List.head?_nil nx_ o2_ u8_ lend les leV ler h9_ ej_ ba_ bsO bsE cvO cvV ft_ frz e5_ kq_ z5_ k4_ ah_ an_ cw_ cd_ V.pure cls clr V.cl ma_ V.flat us List.getD_cons_zero List.getD_cons_succ List.getD_nil List.set_cons_zero List.set_cons_succ List.set_nil List.getElem?_cons_zero List.getElem?_cons_succ List.getElem?_nil Option.map_some Option.map_none Option.bind_some Option.bind_none Option.getD_some Option.getD_none Option.isSome_some Option.isNone_none Option.isNone_some Option.toArray_some Option.toArray_none List.toList_toArray List.map_cons List.map_nil List.append_nil List.nil_append List.cons_append List.all_cons List.all_nil List.all_append List.isEmpty_nil List.isEmpty_cons List.reverse_cons List.reverse_nil List.drop_zero List.drop_succ_cons List.drop_nil List.take_zero List.take_succ_cons List.take_nil T7_ List.length_nil List.zip_cons_cons List.zip_nil_left List.zip_nil_right List.flatMap_cons List.flatMap_nil List.replicate_succ List.replicate_zero Array.toList_append List.getElem?_toArray Array.getD_eq_getD_getElem? Bool.true_and Bool.and_true Bool.false_and Bool.and_false Bool.not_true Bool.not_false Bool.and_self beq_self_eq_true and_true true_and and_self cond_true cond_false if_true if_false ite_true ite_false decide_true decide_false Bool.decide_eq_true true_implies implies_true imp_self Nat.zero_add Nat.le_refl Nat.add_zero Nat.zero_mul Int.toNat_zero List.contains_nil List.contains_cons Bool.or_false Bool.or_true Bool.false_or Bool.true_or T9_ Ta_ eq_self List.append_toArray Bool.false_eq_true Array.size_empty List.push_toArray List.size_toArray Array.toList_map Array.toList_empty Bool.cond_false_right Bool.cond_true_left beq_true beq_false Int.toNat_natCast ab_ aa_ i2_ ce_ on_ i1_ a4_ jn_ fy_ ahs_ agc_ sy_ adr_ aii_ ifO maxO aba_ zn_ act_ abb_ ah5_ af3_ ahu_ ty2 zo2 ty3 zo3 ty4 zo4 ty5 zo5 ty6 zo6 ty7 zo7 ty8 zo8 ty9 zo9 ty10 zo10 ty11 zo11 ty12 zo12 ty13 zo13 ty14 zo14 ty15 zo15 ty16 zo16 ty17 zo17 ty18 zo18 ty19 zo19 ty21 zo21 ty22 zo22 ty23 zo23 ty25 zo25 ty31 zo31 ty32 zo32 ty33 zo33 ty34 zo34 ty35 zo35 ty47 zo47 ty48 zo48 ty53 zo53 ty54 zo54 ty55 zo55 ty62 zo62 ty68 zo68 ty70 zo70 ty76 zo76 aj7_ ais_ aje_ aju_ akk_ aih_ ajw_ aj5_ akj_ ajb_ akb_ aka_ aiw_ akf_ ai6_ aiz_ ajn_ aj4_ aji_ aja_ akn_ akh_ ait_ ajx_ aki_ ajl_ ai4_ aj8_ ajc_ ai9_ ail_ aik_ ajq_ aio_ aiv_ aj3_ ajr_ aig_ ajd_ aij_ ajp_ ajy_ ajh_ air_ ajg_ aj2_ aj6_ aip_ aim_ ajm_ ain_ ai5_ ai1_ ajs_ akm_ ai7_
end
end Go.Proofs.YtpikbndepapbhabGreatDoor
