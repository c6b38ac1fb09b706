/- The program as an environment of the tree logic: what its package variables hold. Conditions: none. -/
import Derived.Test.YtpikbndepapbhaaGreatDoorKb
import Derived.Test.YtpikbndepapbhaaGreatDoorProg
import Derived.Test.YtpikbndepapbhaaGreatDoorKc
import Derived.Lib.LaidTab
set_option linter.unusedVariables false
set_option linter.unusedSimpArgs false
namespace Go.Proofs.YtpikbndepapbhaaGreatDoor
section
open Go.RowKit
def ownW : List Str := [[108, 101, 116], [115, 97, 121], [119, 104, 101, 110], [97, 115], [112, 114, 105, 110, 116], [105, 102], [105, 110, 116], [98, 111, 111, 108]]
def bm_ (l : List Str) : List (List V) := l.map fun s => [.s s]
theorem ab_ (l : List Str) : (bm_ l).length = l.length := by simp [bm_]
theorem cj_ {l : List Str} {k : Nat} (h : k < l.length) : (bm_ l).getD k [] = [.s (l.getD k [])] := by
 simp [bm_, T8_, T6_ h]
theorem aa_ : ∀ l : List Str, ch_ (bm_ l) = true
 | [] => rfl
 | s :: l => by simp only [bm_, List.map_cons, ch_, cs_, V.pure, Bool.true_and]; exact aa_ l
structure Gl (B : Nat) (w : World) : Prop where
 tab : Lib.TabIs Tryz.prog w "internal/strconv.uint64pow10" .u64 Lib.pow10Tab
 syn : ∃ tp p, w.var? Tryz.prog "strconv.ErrSyntax" = some #[.iface tp p]
 rng : ∃ tp p, w.var? Tryz.prog "strconv.ErrRange" = some #[.iface tp p]
 maxl : ∃ m : Int, w.cell? ⟨1, 0, none⟩ = some (.int .i64 m)
 many : 4 < B ∧ 5 < B ∧ 6 < B ∧ 1 < B
theorem m2_ {P : Program} {B g : Nat} {W W' : World} {n : String} {cs : Array Value} (h : ∀ g, g < B → W'.heap[g]? = W.heap[g]?) (hg : P.globalNamed n = some g) (hgB : g < B) (hv : W.var? P n = some cs) : W'.var? P n = some cs := by
 unfold World.var? at hv ⊢
 simp only [hg, Option.bind_some] at hv ⊢
 rw [h g hgB]
 exact hv
theorem gTab : Tryz.prog.globalNamed "internal/strconv.uint64pow10" = some 4 := by kernel_rfl
theorem gSyn : Tryz.prog.globalNamed "strconv.ErrSyntax" = some 5 := by kernel_rfl
theorem gRng : Tryz.prog.globalNamed "strconv.ErrRange" = some 6 := by kernel_rfl
theorem Gl.same {B : Nat} {w w' : World} (h : Gl B w) (hb : ∀ g, g < B → w'.heap[g]? = w.heap[g]?) : Gl B w' := by
 obtain ⟨m1, m2, m3, m4⟩ := h.many
 obtain ⟨m, hm⟩ := h.maxl
 obtain ⟨t1, p1, s1⟩ := h.syn
 obtain ⟨t2, p2, s2⟩ := h.rng
 exact ⟨m2_ hb gTab m1 h.tab, ⟨t1, p1, m2_ hb gSyn m2 s1⟩, ⟨t2, p2, m2_ hb gRng m3 s2⟩, ⟨m, by unfold World.cell? at hm ⊢; rw [hb _ m4]; exact hm⟩, h.many⟩
noncomputable def En : Env := ⟨Tryz.prog, fun g => if g = 0 then some [.sl false (bm_ ownW)] else none, Gl, fun _ _ _ h hb => h.same hb⟩
theorem akn_ : En.G 0 = some [.sl false (bm_ ownW)] := rfl
theorem enM : En.P.follows .mixedOrders = true := by kernel_rfl
end
section
theorem ty2 : bz_ En.P 2 = some ⟨TK.int IntKind.i64, 1, V.i IntKind.i64 (0)⟩ := by kernel_rfl
theorem zo2 : bu_ En.P 2 = V.i IntKind.i64 (0) := by kernel_rfl
theorem ty3 : bz_ En.P 3 = some ⟨TK.int IntKind.i64, 1, V.i IntKind.i64 (0)⟩ := by kernel_rfl
theorem zo3 : bu_ En.P 3 = V.i IntKind.i64 (0) := by kernel_rfl
theorem ty4 : bz_ En.P 4 = some ⟨TK.bool, 1, V.b false⟩ := by kernel_rfl
theorem zo4 : bu_ En.P 4 = V.b false := by kernel_rfl
theorem ty5 : bz_ En.P 5 = some ⟨TK.int IntKind.u8, 1, V.i IntKind.u8 (0)⟩ := by kernel_rfl
theorem zo5 : bu_ En.P 5 = V.i IntKind.u8 (0) := by kernel_rfl
theorem ty6 : bz_ En.P 6 = some ⟨TK.int IntKind.u8, 1, V.i IntKind.u8 (0)⟩ := by kernel_rfl
theorem zo6 : bu_ En.P 6 = V.i IntKind.u8 (0) := by kernel_rfl
theorem ty7 : bz_ En.P 7 = some ⟨TK.st [(0, 1, false), (1, 1, false), (2, 1, false), (3, 1, false)], 4, V.ag [V.i IntKind.i64 (0), V.i IntKind.i64 (0), V.b false, V.i IntKind.u8 (0)]⟩ := by kernel_rfl
theorem zo7 : bu_ En.P 7 = V.ag [V.i IntKind.i64 (0), V.i IntKind.i64 (0), V.b false, V.i IntKind.u8 (0)] := by kernel_rfl
theorem ty8 : bz_ En.P 8 = some ⟨TK.st [(0, 1, false), (1, 1, false), (2, 1, false), (3, 1, false)], 4, V.ag [V.i IntKind.i64 (0), V.i IntKind.i64 (0), V.b false, V.i IntKind.u8 (0)]⟩ := by kernel_rfl
theorem zo8 : bu_ En.P 8 = V.ag [V.i IntKind.i64 (0), V.i IntKind.i64 (0), V.b false, V.i IntKind.u8 (0)] := by kernel_rfl
theorem ty9 : bz_ En.P 9 = some ⟨TK.str, 1, V.s []⟩ := by kernel_rfl
theorem zo9 : bu_ En.P 9 = V.s [] := by kernel_rfl
theorem ty10 : bz_ En.P 10 = some ⟨TK.str, 1, V.s []⟩ := by kernel_rfl
theorem zo10 : bu_ En.P 10 = V.s [] := by kernel_rfl
theorem ty11 : bz_ En.P 11 = some ⟨TK.str, 1, V.s []⟩ := by kernel_rfl
theorem zo11 : bu_ En.P 11 = V.s [] := by kernel_rfl
theorem ty12 : bz_ En.P 12 = some ⟨TK.int IntKind.u64, 1, V.i IntKind.u64 (0)⟩ := by kernel_rfl
theorem zo12 : bu_ En.P 12 = V.i IntKind.u64 (0) := by kernel_rfl
theorem ty13 : bz_ En.P 13 = some ⟨TK.st [(0, 1, false), (1, 1, false)], 2, V.ag [V.s [], V.i IntKind.u64 (0)]⟩ := by kernel_rfl
theorem zo13 : bu_ En.P 13 = V.ag [V.s [], V.i IntKind.u64 (0)] := by kernel_rfl
theorem ty14 : bz_ En.P 14 = some ⟨TK.st [(0, 1, false), (1, 1, false)], 2, V.ag [V.s [], V.i IntKind.u64 (0)]⟩ := by kernel_rfl
theorem zo14 : bu_ En.P 14 = V.ag [V.s [], V.i IntKind.u64 (0)] := by kernel_rfl
theorem ty15 : bz_ En.P 15 = some ⟨TK.other, 1, V.np⟩ := by kernel_rfl
theorem zo15 : bu_ En.P 15 = V.np := by kernel_rfl
theorem ty16 : bz_ En.P 16 = some ⟨TK.other, 1, V.np⟩ := by kernel_rfl
theorem zo16 : bu_ En.P 16 = V.np := by kernel_rfl
theorem ty17 : bz_ En.P 17 = some ⟨TK.other, 1, V.np⟩ := by kernel_rfl
theorem zo17 : bu_ En.P 17 = V.np := by kernel_rfl
theorem ty18 : bz_ En.P 18 = some ⟨TK.st [(0, 1, false)], 1, V.ag [V.np]⟩ := by kernel_rfl
theorem zo18 : bu_ En.P 18 = V.ag [V.np] := by kernel_rfl
theorem ty19 : bz_ En.P 19 = some ⟨TK.st [(0, 1, false)], 1, V.ag [V.np]⟩ := by kernel_rfl
theorem zo19 : bu_ En.P 19 = V.ag [V.np] := by kernel_rfl
theorem ty21 : bz_ En.P 21 = some ⟨TK.int IntKind.i32, 1, V.i IntKind.i32 (0)⟩ := by kernel_rfl
theorem zo21 : bu_ En.P 21 = V.i IntKind.i32 (0) := by kernel_rfl
theorem ty22 : bz_ En.P 22 = some ⟨TK.sl 5 1 1 [V.i IntKind.u8 (0)], 1, V.sl true []⟩ := by kernel_rfl
theorem zo22 : bu_ En.P 22 = V.sl true [] := by kernel_rfl
theorem ty24 : bz_ En.P 24 = some ⟨TK.sl 47 4 64 [V.s [], V.b false, V.s [], V.sl true []], 1, V.sl true []⟩ := by kernel_rfl
theorem zo24 : bu_ En.P 24 = V.sl true [] := by kernel_rfl
theorem ty27 : bz_ En.P 27 = some ⟨TK.sl 66 11 152 [V.i IntKind.i64 (0), V.s [], V.s [], V.i IntKind.i64 (0), V.i IntKind.i64 (0), V.s [], V.sl true [], V.i IntKind.i64 (0), V.i IntKind.i64 (0), V.s [], V.sl true []], 1, V.sl true []⟩ := by kernel_rfl
theorem zo27 : bu_ En.P 27 = V.sl true [] := by kernel_rfl
theorem ty30 : bz_ En.P 30 = some ⟨TK.sl 3 1 8 [V.i IntKind.i64 (0)], 1, V.sl true []⟩ := by kernel_rfl
theorem zo30 : bu_ En.P 30 = V.sl true [] := by kernel_rfl
theorem ty36 : bz_ En.P 36 = some ⟨TK.sl 54 4 32 [V.i IntKind.i64 (0), V.i IntKind.i64 (0), V.i IntKind.i64 (0), V.i IntKind.i64 (0)], 1, V.sl true []⟩ := by kernel_rfl
theorem zo36 : bu_ En.P 36 = V.sl true [] := by kernel_rfl
theorem ty46 : bz_ En.P 46 = some ⟨TK.st [(0, 1, false), (1, 1, false), (2, 1, false), (3, 1, false)], 4, V.ag [V.s [], V.b false, V.s [], V.sl true []]⟩ := by kernel_rfl
theorem zo46 : bu_ En.P 46 = V.ag [V.s [], V.b false, V.s [], V.sl true []] := by kernel_rfl
theorem ty47 : bz_ En.P 47 = some ⟨TK.st [(0, 1, false), (1, 1, false), (2, 1, false), (3, 1, false)], 4, V.ag [V.s [], V.b false, V.s [], V.sl true []]⟩ := by kernel_rfl
theorem zo47 : bu_ En.P 47 = V.ag [V.s [], V.b false, V.s [], V.sl true []] := by kernel_rfl
theorem ty51 : bz_ En.P 51 = some ⟨TK.st [(0, 1, false), (1, 1, false)], 2, V.ag [V.i IntKind.i64 (0), V.i IntKind.i64 (0)]⟩ := by kernel_rfl
theorem zo51 : bu_ En.P 51 = V.ag [V.i IntKind.i64 (0), V.i IntKind.i64 (0)] := by kernel_rfl
theorem ty52 : bz_ En.P 52 = some ⟨TK.st [(0, 1, false), (1, 1, false)], 2, V.ag [V.i IntKind.i64 (0), V.i IntKind.i64 (0)]⟩ := by kernel_rfl
theorem zo52 : bu_ En.P 52 = V.ag [V.i IntKind.i64 (0), V.i IntKind.i64 (0)] := by kernel_rfl
theorem ty53 : bz_ En.P 53 = some ⟨TK.st [(0, 2, true), (2, 2, true)], 4, V.ag [V.i IntKind.i64 (0), V.i IntKind.i64 (0), V.i IntKind.i64 (0), V.i IntKind.i64 (0)]⟩ := by kernel_rfl
theorem zo53 : bu_ En.P 53 = V.ag [V.i IntKind.i64 (0), V.i IntKind.i64 (0), V.i IntKind.i64 (0), V.i IntKind.i64 (0)] := by kernel_rfl
theorem ty54 : bz_ En.P 54 = some ⟨TK.st [(0, 2, true), (2, 2, true)], 4, V.ag [V.i IntKind.i64 (0), V.i IntKind.i64 (0), V.i IntKind.i64 (0), V.i IntKind.i64 (0)]⟩ := by kernel_rfl
theorem zo54 : bu_ En.P 54 = V.ag [V.i IntKind.i64 (0), V.i IntKind.i64 (0), V.i IntKind.i64 (0), V.i IntKind.i64 (0)] := by kernel_rfl
theorem ty55 : bz_ En.P 55 = some ⟨TK.sl 9 1 16 [V.s []], 1, V.sl true []⟩ := by kernel_rfl
theorem zo55 : bu_ En.P 55 = V.sl true [] := by kernel_rfl
theorem ty59 : bz_ En.P 59 = some ⟨TK.other, 1, V.np⟩ := by kernel_rfl
theorem zo59 : bu_ En.P 59 = V.np := by kernel_rfl
theorem ty62 : bz_ En.P 62 = some ⟨TK.sl 64 4 56 [V.i IntKind.i64 (0), V.i IntKind.i64 (0), V.s [], V.sl true []], 1, V.sl true []⟩ := by kernel_rfl
theorem zo62 : bu_ En.P 62 = V.sl true [] := by kernel_rfl
theorem ty63 : bz_ En.P 63 = some ⟨TK.st [(0, 1, false), (1, 1, false), (2, 1, false), (3, 1, false)], 4, V.ag [V.i IntKind.i64 (0), V.i IntKind.i64 (0), V.s [], V.sl true []]⟩ := by kernel_rfl
theorem zo63 : bu_ En.P 63 = V.ag [V.i IntKind.i64 (0), V.i IntKind.i64 (0), V.s [], V.sl true []] := by kernel_rfl
theorem ty64 : bz_ En.P 64 = some ⟨TK.st [(0, 1, false), (1, 1, false), (2, 1, false), (3, 1, false)], 4, V.ag [V.i IntKind.i64 (0), V.i IntKind.i64 (0), V.s [], V.sl true []]⟩ := by kernel_rfl
theorem zo64 : bu_ En.P 64 = V.ag [V.i IntKind.i64 (0), V.i IntKind.i64 (0), V.s [], V.sl true []] := by kernel_rfl
theorem ty65 : bz_ En.P 65 = some ⟨TK.st [(0, 1, false), (1, 1, false), (2, 1, false), (3, 4, true), (7, 4, true)], 11, V.ag [V.i IntKind.i64 (0), V.s [], V.s [], V.i IntKind.i64 (0), V.i IntKind.i64 (0), V.s [], V.sl true [], V.i IntKind.i64 (0), V.i IntKind.i64 (0), V.s [], V.sl true []]⟩ := by kernel_rfl
theorem zo65 : bu_ En.P 65 = V.ag [V.i IntKind.i64 (0), V.s [], V.s [], V.i IntKind.i64 (0), V.i IntKind.i64 (0), V.s [], V.sl true [], V.i IntKind.i64 (0), V.i IntKind.i64 (0), V.s [], V.sl true []] := by kernel_rfl
theorem ty66 : bz_ En.P 66 = some ⟨TK.st [(0, 1, false), (1, 1, false), (2, 1, false), (3, 4, true), (7, 4, true)], 11, V.ag [V.i IntKind.i64 (0), V.s [], V.s [], V.i IntKind.i64 (0), V.i IntKind.i64 (0), V.s [], V.sl true [], V.i IntKind.i64 (0), V.i IntKind.i64 (0), V.s [], V.sl true []]⟩ := by kernel_rfl
theorem zo66 : bu_ En.P 66 = V.ag [V.i IntKind.i64 (0), V.s [], V.s [], V.i IntKind.i64 (0), V.i IntKind.i64 (0), V.s [], V.sl true [], V.i IntKind.i64 (0), V.i IntKind.i64 (0), V.s [], V.sl true []] := by kernel_rfl
theorem ty91 : bz_ En.P 91 = some ⟨TK.st [(0, 1, false), (1, 1, false)], 2, V.ag [V.sl true [], V.i IntKind.i64 (0)]⟩ := by kernel_rfl
theorem zo91 : bu_ En.P 91 = V.ag [V.sl true [], V.i IntKind.i64 (0)] := by kernel_rfl
theorem ty92 : bz_ En.P 92 = some ⟨TK.st [(0, 1, false), (1, 1, false)], 2, V.ag [V.sl true [], V.i IntKind.i64 (0)]⟩ := by kernel_rfl
theorem zo92 : bu_ En.P 92 = V.ag [V.sl true [], V.i IntKind.i64 (0)] := by kernel_rfl
theorem ak9_ : bz_ En.P 103 = some ⟨TK.sl 107 2 24 [V.s [], V.i IntKind.i64 (0)], 1, V.sl true []⟩ := by kernel_rfl
theorem anc_ : bu_ En.P 103 = V.sl true [] := by kernel_rfl
theorem aml_ : bz_ En.P 106 = some ⟨TK.st [(0, 1, false), (1, 1, false)], 2, V.ag [V.s [], V.i IntKind.i64 (0)]⟩ := by kernel_rfl
theorem ak7_ : bu_ En.P 106 = V.ag [V.s [], V.i IntKind.i64 (0)] := by kernel_rfl
theorem al7_ : bz_ En.P 107 = some ⟨TK.st [(0, 1, false), (1, 1, false)], 2, V.ag [V.s [], V.i IntKind.i64 (0)]⟩ := by kernel_rfl
theorem alq_ : bu_ En.P 107 = V.ag [V.s [], V.i IntKind.i64 (0)] := by kernel_rfl
theorem alh_ : bz_ En.P 108 = some ⟨TK.st [(0, 1, false), (1, 1, false), (2, 4, true), (6, 4, true)], 10, V.ag [V.i IntKind.i64 (0), V.s [], V.i IntKind.i64 (0), V.i IntKind.i64 (0), V.s [], V.sl true [], V.i IntKind.i64 (0), V.i IntKind.i64 (0), V.s [], V.sl true []]⟩ := by kernel_rfl
theorem alp_ : bu_ En.P 108 = V.ag [V.i IntKind.i64 (0), V.s [], V.i IntKind.i64 (0), V.i IntKind.i64 (0), V.s [], V.sl true [], V.i IntKind.i64 (0), V.i IntKind.i64 (0), V.s [], V.sl true []] := by kernel_rfl
theorem alo_ : bz_ En.P 109 = some ⟨TK.st [(0, 1, false), (1, 1, false), (2, 4, true), (6, 4, true)], 10, V.ag [V.i IntKind.i64 (0), V.s [], V.i IntKind.i64 (0), V.i IntKind.i64 (0), V.s [], V.sl true [], V.i IntKind.i64 (0), V.i IntKind.i64 (0), V.s [], V.sl true []]⟩ := by kernel_rfl
theorem am1_ : bu_ En.P 109 = V.ag [V.i IntKind.i64 (0), V.s [], V.i IntKind.i64 (0), V.i IntKind.i64 (0), V.s [], V.sl true [], V.i IntKind.i64 (0), V.i IntKind.i64 (0), V.s [], V.sl true []] := by kernel_rfl
theorem ale_ : bz_ En.P 112 = some ⟨TK.sl 116 3 32 [V.i IntKind.i64 (0), V.s [], V.i IntKind.i64 (0)], 1, V.sl true []⟩ := by kernel_rfl
theorem ana_ : bu_ En.P 112 = V.sl true [] := by kernel_rfl
theorem am6_ : bz_ En.P 115 = some ⟨TK.st [(0, 1, false), (1, 1, false), (2, 1, false)], 3, V.ag [V.i IntKind.i64 (0), V.s [], V.i IntKind.i64 (0)]⟩ := by kernel_rfl
theorem aly_ : bu_ En.P 115 = V.ag [V.i IntKind.i64 (0), V.s [], V.i IntKind.i64 (0)] := by kernel_rfl
theorem al2_ : bz_ En.P 116 = some ⟨TK.st [(0, 1, false), (1, 1, false), (2, 1, false)], 3, V.ag [V.i IntKind.i64 (0), V.s [], V.i IntKind.i64 (0)]⟩ := by kernel_rfl
theorem ane_ : bu_ En.P 116 = V.ag [V.i IntKind.i64 (0), V.s [], V.i IntKind.i64 (0)] := by kernel_rfl
theorem alg_ : bz_ En.P 121 = some ⟨TK.other, 1, V.np⟩ := by kernel_rfl
theorem amo_ : bu_ En.P 121 = V.np := by kernel_rfl
theorem amd_ : bz_ En.P 122 = some ⟨TK.st [(0, 1, false), (1, 1, false)], 2, V.ag [V.np, V.sl true []]⟩ := by kernel_rfl
theorem ams_ : bu_ En.P 122 = V.ag [V.np, V.sl true []] := by kernel_rfl
theorem ami_ : bz_ En.P 123 = some ⟨TK.st [(0, 1, false), (1, 1, false)], 2, V.ag [V.np, V.sl true []]⟩ := by kernel_rfl
theorem alc_ : bu_ En.P 123 = V.ag [V.np, V.sl true []] := by kernel_rfl
theorem anb_ : bz_ En.P 131 = some ⟨TK.sl 135 2 24 [V.s [], V.i IntKind.i64 (0)], 1, V.sl true []⟩ := by kernel_rfl
theorem ali_ : bu_ En.P 131 = V.sl true [] := by kernel_rfl
theorem amz_ : bz_ En.P 134 = some ⟨TK.st [(0, 1, false), (1, 1, false)], 2, V.ag [V.s [], V.i IntKind.i64 (0)]⟩ := by kernel_rfl
theorem alt_ : bu_ En.P 134 = V.ag [V.s [], V.i IntKind.i64 (0)] := by kernel_rfl
theorem amy_ : bz_ En.P 135 = some ⟨TK.st [(0, 1, false), (1, 1, false)], 2, V.ag [V.s [], V.i IntKind.i64 (0)]⟩ := by kernel_rfl
theorem alm_ : bu_ En.P 135 = V.ag [V.s [], V.i IntKind.i64 (0)] := by kernel_rfl
theorem am3_ : bz_ En.P 144 = some ⟨TK.other, 1, V.np⟩ := by kernel_rfl
theorem amn_ : bu_ En.P 144 = V.np := by kernel_rfl
theorem am8_ : bz_ En.P 155 = some ⟨TK.sl 24 1 24 [V.sl true []], 1, V.sl true []⟩ := by kernel_rfl
theorem amk_ : bu_ En.P 155 = V.sl true [] := by kernel_rfl
theorem alu_ : bz_ En.P 158 = some ⟨TK.other, 1, V.np⟩ := by kernel_rfl
theorem all_ : bu_ En.P 158 = V.np := by kernel_rfl
theorem alr_ : bz_ En.P 163 = some ⟨TK.other, 1, V.np⟩ := by kernel_rfl
theorem alj_ : bu_ En.P 163 = V.np := by kernel_rfl
theorem al5_ : bz_ En.P 164 = some ⟨TK.st [(0, 1, false), (1, 1, false), (2, 1, false)], 3, V.ag [V.sl true [], V.b false, V.i IntKind.i64 (0)]⟩ := by kernel_rfl
theorem ak8_ : bu_ En.P 164 = V.ag [V.sl true [], V.b false, V.i IntKind.i64 (0)] := by kernel_rfl
theorem amb_ : bz_ En.P 165 = some ⟨TK.st [(0, 1, false), (1, 1, false), (2, 1, false)], 3, V.ag [V.sl true [], V.b false, V.i IntKind.i64 (0)]⟩ := by kernel_rfl
theorem amt_ : bu_ En.P 165 = V.ag [V.sl true [], V.b false, V.i IntKind.i64 (0)] := by kernel_rfl
theorem amu_ : bz_ En.P 178 = some ⟨TK.other, 1, V.np⟩ := by kernel_rfl
theorem al3_ : bu_ En.P 178 = V.np := by kernel_rfl
theorem al8_ : bz_ En.P 192 = some ⟨TK.int IntKind.u64, 1, V.i IntKind.u64 (0)⟩ := by kernel_rfl
theorem ame_ : bu_ En.P 192 = V.i IntKind.u64 (0) := by kernel_rfl
theorem amg_ : bz_ En.P 198 = some ⟨TK.int IntKind.u32, 1, V.i IntKind.u32 (0)⟩ := by kernel_rfl
theorem al6_ : bu_ En.P 198 = V.i IntKind.u32 (0) := by kernel_rfl
theorem alb_ : bz_ En.P 203 = some ⟨TK.st [(0, 1, false), (1, 1, false)], 2, V.ag [V.i IntKind.u8 (0), V.i IntKind.u8 (0)]⟩ := by kernel_rfl
theorem amf_ : bu_ En.P 203 = V.ag [V.i IntKind.u8 (0), V.i IntKind.u8 (0)] := by kernel_rfl
theorem am4_ : bz_ En.P 204 = some ⟨TK.st [(0, 1, false), (1, 1, false)], 2, V.ag [V.i IntKind.u8 (0), V.i IntKind.u8 (0)]⟩ := by kernel_rfl
theorem al9_ : bu_ En.P 204 = V.ag [V.i IntKind.u8 (0), V.i IntKind.u8 (0)] := by kernel_rfl
theorem amh_ : bz_ En.P 208 = some ⟨TK.int IntKind.u64, 1, V.i IntKind.u64 (0)⟩ := by kernel_rfl
theorem alf_ : bu_ En.P 208 = V.i IntKind.u64 (0) := by kernel_rfl
theorem and_ : bz_ En.P 213 = some ⟨TK.int IntKind.i64, 1, V.i IntKind.i64 (0)⟩ := by kernel_rfl
theorem am2_ : bu_ En.P 213 = V.i IntKind.i64 (0) := by kernel_rfl
theorem als_ : bz_ En.P 216 = some ⟨TK.other, 1, V.np⟩ := by kernel_rfl
theorem al1_ : bu_ En.P 216 = V.np := by kernel_rfl
end
section
mutual
def eC : E → List V
 | .mk k n s kids => [.i .i64 k, .i .i64 n, .s s, .sl false (eR kids)]
def eR : List E → List (List V)
 | [] => []
 | e :: r => eC e :: eR r
end
theorem a7_ (e : E) : eC e = [.i .i64 e.kind, .i .i64 e.n, .s e.s, .sl false (eR e.kids)] := by cases e; simp only [eC, E.kind, E.n, E.s, E.kids]
theorem my_ : ∀ l : List E, eR l = l.map eC
 | [] => by simp only [eR, List.map_nil]
 | e :: r => by simp only [eR, List.map_cons, my_ r]
theorem mj_ (l : List E) : (eR l).length = l.length := by rw [my_, List.length_map]
theorem eb_ {l : List E} {k : Nat} (h : k < l.length) : (eR l).getD k [] = eC (l.getD k E0) := by
 rw [my_]; simp [T8_, T6_ h]
mutual
theorem aha_ : ∀ e : E, cs_ (eC e) = true
 | .mk k n s kids => by simp only [eC, cs_, V.pure, i4_ kids, Bool.and_self]
theorem i4_ : ∀ l : List E, ch_ (eR l) = true
 | [] => by simp only [eR, ch_]
 | e :: r => by simp only [eR, ch_, aha_ e, i4_ r, Bool.and_self]
end
def byR (b : Str) : List (List V) := b.map fun c => [.i .u8 c.toNat]
theorem aho_ (b : Str) : (byR b).length = b.length := by simp [byR]
theorem vd_ : ∀ b : Str, ch_ (byR b) = true
 | [] => rfl
 | c :: b => by simp only [byR, List.map_cons, ch_, cs_, V.pure, Bool.true_and]; exact vd_ b
theorem tb_ {b : Str} {k : Nat} (h : k < b.length) : (byR b).getD k [] = [.i .u8 (b.getD k 0).toNat] := by
 simp [byR, T8_, T6_ h]
theorem ac9_ (b : Str) (k : Nat) : (byR b).take k = byR (b.take k) := by simp [byR, List.map_take]
theorem ald_ (a b c : Nat) (d : List V) : (∃ el z y zc, some (TK.sl a b c d) = some (TK.sl el z y zc)) = True := eq_true ⟨a, b, c, d, rfl⟩
end
section
attribute [go_sem] lxs adm_ gE gO evO obO ac4_ acj_ St.pv St.ev peel d7_ pcB Op.operands Call.operands V.ofConst V.ofConst1 nm ai5_ ai8_ rp_ aea_ ajm_ idxV idxC maxV minV l6_ hl_ sw_ t4_ TK.agg ajp_ xx_ u0_ yh_ u9_ zc_ rh_ zj_ s4_ td_ aunV aunC m6_ ldV ldC c3_ stV okC stC fldV fldC ixaV ixaC no_ ju_ gc_ isC nu_ extV extC zy_ lenC slcV slcC bndC ioV p7_ appC wr_ mkE V.one V.cells isB hc_ fz_ aar_ w9_ ti_ xk_ wrL n6_ f1_ i9_ rnB rn rns rnr a3_ bw_ ajh_ cm_ mw_ qj_ ai6_ ajg_ aja_ newE mf_ yy_ nilO nilV qw_ aaw_ abx_ List.head?_cons List.head?_nil o3_ qc_ vg_ lend les leV ler hj_ fs_ a8_ bsO bsE cvO cvV gm_ frz fx_ gx_ frzB me_ ag_ ak_ cs_ ch_ V.pure cls clr V.cl nj_ V.flat us List.getD_cons_zero List.getD_cons_succ List.getD_nil List.set_cons_zero List.set_cons_succ List.set_nil List.getElem?_cons_zero List.getElem?_cons_succ List.getElem?_nil Option.map_some Option.map_none Option.bind_some Option.bind_none Option.getD_some Option.getD_none Option.isSome_some Option.isNone_none Option.isNone_some Option.toArray_some Option.toArray_none List.toList_toArray List.map_cons List.map_nil List.append_nil List.nil_append List.cons_append List.all_cons List.all_nil List.all_append List.isEmpty_nil List.isEmpty_cons List.reverse_cons List.reverse_nil List.drop_zero List.drop_succ_cons List.drop_nil List.take_zero List.take_succ_cons List.take_nil T7_ List.length_nil List.zip_cons_cons List.zip_nil_left List.zip_nil_right List.flatMap_cons List.flatMap_nil List.replicate_succ List.replicate_zero Array.toList_append List.getElem?_toArray Array.getD_eq_getD_getElem? Bool.true_and Bool.and_true Bool.false_and Bool.and_false Bool.not_true Bool.not_false Bool.and_self beq_self_eq_true and_true true_and and_self cond_true cond_false if_true if_false ite_true ite_false decide_true decide_false Bool.decide_eq_true true_implies implies_true imp_self Nat.zero_add Nat.le_refl Nat.add_zero Nat.zero_mul Int.toNat_zero List.contains_nil List.contains_cons Bool.or_false Bool.or_true Bool.false_or Bool.true_or T9_ Ta_ eq_self List.append_toArray Bool.false_eq_true Array.size_empty List.push_toArray List.size_toArray Array.toList_map Array.toList_empty Bool.cond_false_right Bool.cond_true_left beq_true beq_false Int.toNat_natCast ab_ aa_ jz_ cl_ in_ ij_ a7_ mj_ i4_ akn_ aho_ vd_ ac9_ ald_ ifO maxO ae4_ z6_ adq_ ab7_ ak4_ ahx_ aj6_ ty2 zo2 ty3 zo3 ty4 zo4 ty5 zo5 ty6 zo6 ty7 zo7 ty8 zo8 ty9 zo9 ty10 zo10 ty11 zo11 ty12 zo12 ty13 zo13 ty14 zo14 ty15 zo15 ty16 zo16 ty17 zo17 ty18 zo18 ty19 zo19 ty21 zo21 ty22 zo22 ty24 zo24 ty27 zo27 ty30 zo30 ty36 zo36 ty46 zo46 ty47 zo47 ty51 zo51 ty52 zo52 ty53 zo53 ty54 zo54 ty55 zo55 ty59 zo59 ty62 zo62 ty63 zo63 ty64 zo64 ty65 zo65 ty66 zo66 ty91 zo91 ty92 zo92 ak9_ anc_ aml_ ak7_ al7_ alq_ alh_ alp_ alo_ am1_ ale_ ana_ am6_ aly_ al2_ ane_ alg_ amo_ amd_ ams_ ami_ alc_ anb_ ali_ amz_ alt_ amy_ alm_ am3_ amn_ am8_ amk_ alu_ all_ alr_ alj_ al5_ ak8_ amb_ amt_ amu_ al3_ al8_ ame_ amg_ al6_ alb_ amf_ am4_ al9_ amh_ alf_ and_ am2_ als_ al1_
end
end Go.Proofs.YtpikbndepapbhaaGreatDoor
