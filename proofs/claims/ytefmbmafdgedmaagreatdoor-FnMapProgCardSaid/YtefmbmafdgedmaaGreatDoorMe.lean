/- The program as an environment of the tree logic: what its package variables hold. Conditions: none. -/
import Derived.Test.YtefmbmafdgedmaaGreatDoorMb
import Derived.Test.YtefmbmafdgedmaaGreatDoorProg
import Derived.Test.YtefmbmafdgedmaaGreatDoorMc
import Derived.Lib.LaidTab
set_option linter.unusedVariables false
set_option linter.unusedSimpArgs false
namespace Go.Proofs.YtefmbmafdgedmaaGreatDoor
section
open Go.RowKit
def ownW : List Str := [[108, 101, 116], [115, 97, 121], [119, 104, 101, 110], [97, 115], [112, 114, 105, 110, 116], [105, 102], [105, 110, 116], [98, 111, 111, 108]]
def b1_ (l : List Str) : List (List V) := l.map fun s => [.s s]
theorem ac_ (l : List Str) : (b1_ l).length = l.length := by simp [b1_]
theorem gh_ {l : List Str} {k : Nat} (h : k < l.length) : (b1_ l).getD k [] = [.s (l.getD k [])] := by
 simp [b1_, List.getD_eq_getElem?_getD, List.getElem?_eq_getElem h]
theorem aa_ : ∀ l : List Str, b4_ (b1_ l) = true
 | [] => rfl
 | s :: l => by simp only [b1_, List.map_cons, b4_, cr_, V.pure, Bool.true_and]; exact aa_ l
structure Gl (B : Nat) (w : World) : Prop where
 tab : Lib.TabIs Tryz.prog w "internal/strconv.uint64pow10" .u64 Lib.pow10Tab
 syn : ∃ tp p, w.var? Tryz.prog "strconv.ErrSyntax" = some #[.iface tp p]
 rng : ∃ tp p, w.var? Tryz.prog "strconv.ErrRange" = some #[.iface tp p]
 maxl : ∃ m : Int, w.cell? ⟨1, 0, none⟩ = some (.int .i64 m)
 many : 6 < B ∧ 4 < B ∧ 5 < B ∧ 1 < B
theorem jl_ {P : Program} {B g : Nat} {W W' : World} {n : String} {cs : Array Value} (h : ∀ g, g < B → W'.heap[g]? = W.heap[g]?) (hg : P.globalNamed n = some g) (hgB : g < B) (hv : W.var? P n = some cs) : W'.var? P n = some cs := by
 unfold World.var? at hv ⊢
 simp only [hg, Option.bind_some] at hv ⊢
 rw [h g hgB]
 exact hv
theorem gTab : Tryz.prog.globalNamed "internal/strconv.uint64pow10" = some 6 := by kernel_rfl
theorem gSyn : Tryz.prog.globalNamed "strconv.ErrSyntax" = some 4 := by kernel_rfl
theorem gRng : Tryz.prog.globalNamed "strconv.ErrRange" = some 5 := by kernel_rfl
theorem Gl.same {B : Nat} {w w' : World} (h : Gl B w) (hb : ∀ g, g < B → w'.heap[g]? = w.heap[g]?) : Gl B w' := by
 obtain ⟨m1, m2, m3, m4⟩ := h.many
 obtain ⟨m, hm⟩ := h.maxl
 obtain ⟨t1, p1, s1⟩ := h.syn
 obtain ⟨t2, p2, s2⟩ := h.rng
 exact ⟨jl_ hb gTab m1 h.tab, ⟨t1, p1, jl_ hb gSyn m2 s1⟩, ⟨t2, p2, jl_ hb gRng m3 s2⟩, ⟨m, by unfold World.cell? at hm ⊢; rw [hb _ m4]; exact hm⟩, h.many⟩
noncomputable def En : Env := ⟨Tryz.prog, fun g => if g = 0 then some [.sl false (b1_ ownW)] else none, Gl, fun _ _ _ h hb => h.same hb⟩
theorem ady_ : En.G 0 = some [.sl false (b1_ ownW)] := rfl
theorem enM : En.P.follows .mixedOrders = true := by kernel_rfl
end
section
theorem ty2 : bn_ En.P 2 = some ⟨TK.int IntKind.i64, 1, V.i IntKind.i64 (0)⟩ := by kernel_rfl
theorem zo2 : bg_ En.P 2 = V.i IntKind.i64 (0) := by kernel_rfl
theorem ty3 : bn_ En.P 3 = some ⟨TK.int IntKind.i64, 1, V.i IntKind.i64 (0)⟩ := by kernel_rfl
theorem zo3 : bg_ En.P 3 = V.i IntKind.i64 (0) := by kernel_rfl
theorem ty4 : bn_ En.P 4 = some ⟨TK.bool, 1, V.b false⟩ := by kernel_rfl
theorem zo4 : bg_ En.P 4 = V.b false := by kernel_rfl
theorem ty5 : bn_ En.P 5 = some ⟨TK.int IntKind.u8, 1, V.i IntKind.u8 (0)⟩ := by kernel_rfl
theorem zo5 : bg_ En.P 5 = V.i IntKind.u8 (0) := by kernel_rfl
theorem ty6 : bn_ En.P 6 = some ⟨TK.int IntKind.u8, 1, V.i IntKind.u8 (0)⟩ := by kernel_rfl
theorem zo6 : bg_ En.P 6 = V.i IntKind.u8 (0) := by kernel_rfl
theorem ty7 : bn_ En.P 7 = some ⟨TK.st [(0, 1, false), (1, 1, false), (2, 1, false), (3, 1, false)], 4, V.ag [V.i IntKind.i64 (0), V.i IntKind.i64 (0), V.b false, V.i IntKind.u8 (0)]⟩ := by kernel_rfl
theorem zo7 : bg_ En.P 7 = V.ag [V.i IntKind.i64 (0), V.i IntKind.i64 (0), V.b false, V.i IntKind.u8 (0)] := by kernel_rfl
theorem ty8 : bn_ En.P 8 = some ⟨TK.st [(0, 1, false), (1, 1, false), (2, 1, false), (3, 1, false)], 4, V.ag [V.i IntKind.i64 (0), V.i IntKind.i64 (0), V.b false, V.i IntKind.u8 (0)]⟩ := by kernel_rfl
theorem zo8 : bg_ En.P 8 = V.ag [V.i IntKind.i64 (0), V.i IntKind.i64 (0), V.b false, V.i IntKind.u8 (0)] := by kernel_rfl
theorem ty9 : bn_ En.P 9 = some ⟨TK.str, 1, V.s []⟩ := by kernel_rfl
theorem zo9 : bg_ En.P 9 = V.s [] := by kernel_rfl
theorem ty10 : bn_ En.P 10 = some ⟨TK.str, 1, V.s []⟩ := by kernel_rfl
theorem zo10 : bg_ En.P 10 = V.s [] := by kernel_rfl
theorem ty11 : bn_ En.P 11 = some ⟨TK.str, 1, V.s []⟩ := by kernel_rfl
theorem zo11 : bg_ En.P 11 = V.s [] := by kernel_rfl
theorem ty12 : bn_ En.P 12 = some ⟨TK.int IntKind.u64, 1, V.i IntKind.u64 (0)⟩ := by kernel_rfl
theorem zo12 : bg_ En.P 12 = V.i IntKind.u64 (0) := by kernel_rfl
theorem ty13 : bn_ En.P 13 = some ⟨TK.st [(0, 1, false), (1, 1, false)], 2, V.ag [V.s [], V.i IntKind.u64 (0)]⟩ := by kernel_rfl
theorem zo13 : bg_ En.P 13 = V.ag [V.s [], V.i IntKind.u64 (0)] := by kernel_rfl
theorem ty14 : bn_ En.P 14 = some ⟨TK.st [(0, 1, false), (1, 1, false)], 2, V.ag [V.s [], V.i IntKind.u64 (0)]⟩ := by kernel_rfl
theorem zo14 : bg_ En.P 14 = V.ag [V.s [], V.i IntKind.u64 (0)] := by kernel_rfl
theorem ty15 : bn_ En.P 15 = some ⟨TK.other, 1, V.np⟩ := by kernel_rfl
theorem zo15 : bg_ En.P 15 = V.np := by kernel_rfl
theorem ty16 : bn_ En.P 16 = some ⟨TK.other, 1, V.np⟩ := by kernel_rfl
theorem zo16 : bg_ En.P 16 = V.np := by kernel_rfl
theorem ty17 : bn_ En.P 17 = some ⟨TK.other, 1, V.np⟩ := by kernel_rfl
theorem zo17 : bg_ En.P 17 = V.np := by kernel_rfl
theorem ty18 : bn_ En.P 18 = some ⟨TK.st [(0, 1, false)], 1, V.ag [V.np]⟩ := by kernel_rfl
theorem zo18 : bg_ En.P 18 = V.ag [V.np] := by kernel_rfl
theorem ty19 : bn_ En.P 19 = some ⟨TK.st [(0, 1, false)], 1, V.ag [V.np]⟩ := by kernel_rfl
theorem zo19 : bg_ En.P 19 = V.ag [V.np] := by kernel_rfl
theorem ty21 : bn_ En.P 21 = some ⟨TK.int IntKind.i32, 1, V.i IntKind.i32 (0)⟩ := by kernel_rfl
theorem zo21 : bg_ En.P 21 = V.i IntKind.i32 (0) := by kernel_rfl
theorem ty22 : bn_ En.P 22 = some ⟨TK.sl 5 1 1 [V.i IntKind.u8 (0)], 1, V.sl true []⟩ := by kernel_rfl
theorem zo22 : bg_ En.P 22 = V.sl true [] := by kernel_rfl
theorem ty23 : bn_ En.P 23 = some ⟨TK.sl 72 11 152 [V.i IntKind.i64 (0), V.s [], V.s [], V.i IntKind.i64 (0), V.i IntKind.i64 (0), V.s [], V.sl true [], V.i IntKind.i64 (0), V.i IntKind.i64 (0), V.s [], V.sl true []], 1, V.sl true []⟩ := by kernel_rfl
theorem zo23 : bg_ En.P 23 = V.sl true [] := by kernel_rfl
theorem ty25 : bn_ En.P 25 = some ⟨TK.sl 38 4 32 [V.i IntKind.i64 (0), V.i IntKind.i64 (0), V.i IntKind.i64 (0), V.i IntKind.i64 (0)], 1, V.sl true []⟩ := by kernel_rfl
theorem zo25 : bg_ En.P 25 = V.sl true [] := by kernel_rfl
theorem ty28 : bn_ En.P 28 = some ⟨TK.sl 9 1 16 [V.s []], 1, V.sl true []⟩ := by kernel_rfl
theorem zo28 : bg_ En.P 28 = V.sl true [] := by kernel_rfl
theorem ty32 : bn_ En.P 32 = some ⟨TK.sl 40 3 32 [V.i IntKind.i64 (0), V.s [], V.i IntKind.i64 (0)], 1, V.sl true []⟩ := by kernel_rfl
theorem zo32 : bg_ En.P 32 = V.sl true [] := by kernel_rfl
theorem ty35 : bn_ En.P 35 = some ⟨TK.st [(0, 1, false), (1, 1, false)], 2, V.ag [V.i IntKind.i64 (0), V.i IntKind.i64 (0)]⟩ := by kernel_rfl
theorem zo35 : bg_ En.P 35 = V.ag [V.i IntKind.i64 (0), V.i IntKind.i64 (0)] := by kernel_rfl
theorem ty36 : bn_ En.P 36 = some ⟨TK.st [(0, 1, false), (1, 1, false)], 2, V.ag [V.i IntKind.i64 (0), V.i IntKind.i64 (0)]⟩ := by kernel_rfl
theorem zo36 : bg_ En.P 36 = V.ag [V.i IntKind.i64 (0), V.i IntKind.i64 (0)] := by kernel_rfl
theorem ty37 : bn_ En.P 37 = some ⟨TK.st [(0, 2, true), (2, 2, true)], 4, V.ag [V.i IntKind.i64 (0), V.i IntKind.i64 (0), V.i IntKind.i64 (0), V.i IntKind.i64 (0)]⟩ := by kernel_rfl
theorem zo37 : bg_ En.P 37 = V.ag [V.i IntKind.i64 (0), V.i IntKind.i64 (0), V.i IntKind.i64 (0), V.i IntKind.i64 (0)] := by kernel_rfl
theorem ty38 : bn_ En.P 38 = some ⟨TK.st [(0, 2, true), (2, 2, true)], 4, V.ag [V.i IntKind.i64 (0), V.i IntKind.i64 (0), V.i IntKind.i64 (0), V.i IntKind.i64 (0)]⟩ := by kernel_rfl
theorem zo38 : bg_ En.P 38 = V.ag [V.i IntKind.i64 (0), V.i IntKind.i64 (0), V.i IntKind.i64 (0), V.i IntKind.i64 (0)] := by kernel_rfl
theorem ty39 : bn_ En.P 39 = some ⟨TK.st [(0, 1, false), (1, 1, false), (2, 1, false)], 3, V.ag [V.i IntKind.i64 (0), V.s [], V.i IntKind.i64 (0)]⟩ := by kernel_rfl
theorem zo39 : bg_ En.P 39 = V.ag [V.i IntKind.i64 (0), V.s [], V.i IntKind.i64 (0)] := by kernel_rfl
theorem ty40 : bn_ En.P 40 = some ⟨TK.st [(0, 1, false), (1, 1, false), (2, 1, false)], 3, V.ag [V.i IntKind.i64 (0), V.s [], V.i IntKind.i64 (0)]⟩ := by kernel_rfl
theorem zo40 : bg_ En.P 40 = V.ag [V.i IntKind.i64 (0), V.s [], V.i IntKind.i64 (0)] := by kernel_rfl
theorem ty43 : bn_ En.P 43 = some ⟨TK.sl 36 2 16 [V.i IntKind.i64 (0), V.i IntKind.i64 (0)], 1, V.sl true []⟩ := by kernel_rfl
theorem zo43 : bg_ En.P 43 = V.sl true [] := by kernel_rfl
theorem ty46 : bn_ En.P 46 = some ⟨TK.sl 48 4 56 [V.i IntKind.i64 (0), V.i IntKind.i64 (0), V.s [], V.sl true []], 1, V.sl true []⟩ := by kernel_rfl
theorem zo46 : bg_ En.P 46 = V.sl true [] := by kernel_rfl
theorem ty47 : bn_ En.P 47 = some ⟨TK.st [(0, 1, false), (1, 1, false), (2, 1, false), (3, 1, false)], 4, V.ag [V.i IntKind.i64 (0), V.i IntKind.i64 (0), V.s [], V.sl true []]⟩ := by kernel_rfl
theorem zo47 : bg_ En.P 47 = V.ag [V.i IntKind.i64 (0), V.i IntKind.i64 (0), V.s [], V.sl true []] := by kernel_rfl
theorem ty48 : bn_ En.P 48 = some ⟨TK.st [(0, 1, false), (1, 1, false), (2, 1, false), (3, 1, false)], 4, V.ag [V.i IntKind.i64 (0), V.i IntKind.i64 (0), V.s [], V.sl true []]⟩ := by kernel_rfl
theorem zo48 : bg_ En.P 48 = V.ag [V.i IntKind.i64 (0), V.i IntKind.i64 (0), V.s [], V.sl true []] := by kernel_rfl
theorem ty49 : bn_ En.P 49 = some ⟨TK.st [(0, 1, false), (1, 1, false), (2, 4, true), (6, 4, true)], 10, V.ag [V.i IntKind.i64 (0), V.s [], V.i IntKind.i64 (0), V.i IntKind.i64 (0), V.s [], V.sl true [], V.i IntKind.i64 (0), V.i IntKind.i64 (0), V.s [], V.sl true []]⟩ := by kernel_rfl
theorem zo49 : bg_ En.P 49 = V.ag [V.i IntKind.i64 (0), V.s [], V.i IntKind.i64 (0), V.i IntKind.i64 (0), V.s [], V.sl true [], V.i IntKind.i64 (0), V.i IntKind.i64 (0), V.s [], V.sl true []] := by kernel_rfl
theorem ty50 : bn_ En.P 50 = some ⟨TK.st [(0, 1, false), (1, 1, false), (2, 4, true), (6, 4, true)], 10, V.ag [V.i IntKind.i64 (0), V.s [], V.i IntKind.i64 (0), V.i IntKind.i64 (0), V.s [], V.sl true [], V.i IntKind.i64 (0), V.i IntKind.i64 (0), V.s [], V.sl true []]⟩ := by kernel_rfl
theorem zo50 : bg_ En.P 50 = V.ag [V.i IntKind.i64 (0), V.s [], V.i IntKind.i64 (0), V.i IntKind.i64 (0), V.s [], V.sl true [], V.i IntKind.i64 (0), V.i IntKind.i64 (0), V.s [], V.sl true []] := by kernel_rfl
theorem ty56 : bn_ En.P 56 = some ⟨TK.sl 99 4 64 [V.s [], V.b false, V.s [], V.sl true []], 1, V.sl true []⟩ := by kernel_rfl
theorem zo56 : bg_ En.P 56 = V.sl true [] := by kernel_rfl
theorem ty60 : bn_ En.P 60 = some ⟨TK.sl 105 4 64 [V.s [], V.b false, V.s [], V.sl true []], 1, V.sl true []⟩ := by kernel_rfl
theorem zo60 : bg_ En.P 60 = V.sl true [] := by kernel_rfl
theorem ty69 : bn_ En.P 69 = some ⟨TK.other, 1, V.np⟩ := by kernel_rfl
theorem zo69 : bg_ En.P 69 = V.np := by kernel_rfl
theorem ty71 : bn_ En.P 71 = some ⟨TK.st [(0, 1, false), (1, 1, false), (2, 1, false), (3, 4, true), (7, 4, true)], 11, V.ag [V.i IntKind.i64 (0), V.s [], V.s [], V.i IntKind.i64 (0), V.i IntKind.i64 (0), V.s [], V.sl true [], V.i IntKind.i64 (0), V.i IntKind.i64 (0), V.s [], V.sl true []]⟩ := by kernel_rfl
theorem zo71 : bg_ En.P 71 = V.ag [V.i IntKind.i64 (0), V.s [], V.s [], V.i IntKind.i64 (0), V.i IntKind.i64 (0), V.s [], V.sl true [], V.i IntKind.i64 (0), V.i IntKind.i64 (0), V.s [], V.sl true []] := by kernel_rfl
theorem ty72 : bn_ En.P 72 = some ⟨TK.st [(0, 1, false), (1, 1, false), (2, 1, false), (3, 4, true), (7, 4, true)], 11, V.ag [V.i IntKind.i64 (0), V.s [], V.s [], V.i IntKind.i64 (0), V.i IntKind.i64 (0), V.s [], V.sl true [], V.i IntKind.i64 (0), V.i IntKind.i64 (0), V.s [], V.sl true []]⟩ := by kernel_rfl
theorem zo72 : bg_ En.P 72 = V.ag [V.i IntKind.i64 (0), V.s [], V.s [], V.i IntKind.i64 (0), V.i IntKind.i64 (0), V.s [], V.sl true [], V.i IntKind.i64 (0), V.i IntKind.i64 (0), V.s [], V.sl true []] := by kernel_rfl
theorem ty73 : bn_ En.P 73 = some ⟨TK.sl 3 1 8 [V.i IntKind.i64 (0)], 1, V.sl true []⟩ := by kernel_rfl
theorem zo73 : bg_ En.P 73 = V.sl true [] := by kernel_rfl
theorem ty98 : bn_ En.P 98 = some ⟨TK.st [(0, 1, false), (1, 1, false), (2, 1, false), (3, 1, false)], 4, V.ag [V.s [], V.b false, V.s [], V.sl true []]⟩ := by kernel_rfl
theorem zo98 : bg_ En.P 98 = V.ag [V.s [], V.b false, V.s [], V.sl true []] := by kernel_rfl
theorem ty99 : bn_ En.P 99 = some ⟨TK.st [(0, 1, false), (1, 1, false), (2, 1, false), (3, 1, false)], 4, V.ag [V.s [], V.b false, V.s [], V.sl true []]⟩ := by kernel_rfl
theorem zo99 : bg_ En.P 99 = V.ag [V.s [], V.b false, V.s [], V.sl true []] := by kernel_rfl
theorem agw_ : bn_ En.P 105 = some ⟨TK.st [(0, 1, false), (1, 1, false), (2, 1, false), (3, 1, false)], 4, V.ag [V.s [], V.b false, V.s [], V.sl true []]⟩ := by kernel_rfl
theorem aey_ : bg_ En.P 105 = V.ag [V.s [], V.b false, V.s [], V.sl true []] := by kernel_rfl
theorem ae5_ : bn_ En.P 112 = some ⟨TK.st [(0, 1, false), (1, 1, false)], 2, V.ag [V.sl true [], V.i IntKind.i64 (0)]⟩ := by kernel_rfl
theorem afn_ : bg_ En.P 112 = V.ag [V.sl true [], V.i IntKind.i64 (0)] := by kernel_rfl
theorem afk_ : bn_ En.P 113 = some ⟨TK.st [(0, 1, false), (1, 1, false)], 2, V.ag [V.sl true [], V.i IntKind.i64 (0)]⟩ := by kernel_rfl
theorem afb_ : bg_ En.P 113 = V.ag [V.sl true [], V.i IntKind.i64 (0)] := by kernel_rfl
theorem aga_ : bn_ En.P 117 = some ⟨TK.sl 121 2 24 [V.s [], V.i IntKind.i64 (0)], 1, V.sl true []⟩ := by kernel_rfl
theorem af8_ : bg_ En.P 117 = V.sl true [] := by kernel_rfl
theorem ae0_ : bn_ En.P 120 = some ⟨TK.st [(0, 1, false), (1, 1, false)], 2, V.ag [V.s [], V.i IntKind.i64 (0)]⟩ := by kernel_rfl
theorem ags_ : bg_ En.P 120 = V.ag [V.s [], V.i IntKind.i64 (0)] := by kernel_rfl
theorem afs_ : bn_ En.P 121 = some ⟨TK.st [(0, 1, false), (1, 1, false)], 2, V.ag [V.s [], V.i IntKind.i64 (0)]⟩ := by kernel_rfl
theorem afw_ : bg_ En.P 121 = V.ag [V.s [], V.i IntKind.i64 (0)] := by kernel_rfl
theorem ago_ : bn_ En.P 154 = some ⟨TK.other, 1, V.np⟩ := by kernel_rfl
theorem afa_ : bg_ En.P 154 = V.np := by kernel_rfl
theorem af5_ : bn_ En.P 157 = some ⟨TK.sl 161 2 24 [V.s [], V.i IntKind.i64 (0)], 1, V.sl true []⟩ := by kernel_rfl
theorem ae3_ : bg_ En.P 157 = V.sl true [] := by kernel_rfl
theorem afo_ : bn_ En.P 160 = some ⟨TK.st [(0, 1, false), (1, 1, false)], 2, V.ag [V.s [], V.i IntKind.i64 (0)]⟩ := by kernel_rfl
theorem ae2_ : bg_ En.P 160 = V.ag [V.s [], V.i IntKind.i64 (0)] := by kernel_rfl
theorem aff_ : bn_ En.P 161 = some ⟨TK.st [(0, 1, false), (1, 1, false)], 2, V.ag [V.s [], V.i IntKind.i64 (0)]⟩ := by kernel_rfl
theorem aex_ : bg_ En.P 161 = V.ag [V.s [], V.i IntKind.i64 (0)] := by kernel_rfl
theorem agl_ : bn_ En.P 165 = some ⟨TK.other, 1, V.np⟩ := by kernel_rfl
theorem afg_ : bg_ En.P 165 = V.np := by kernel_rfl
theorem af7_ : bn_ En.P 166 = some ⟨TK.st [(0, 1, false), (1, 1, false)], 2, V.ag [V.np, V.sl true []]⟩ := by kernel_rfl
theorem ae9_ : bg_ En.P 166 = V.ag [V.np, V.sl true []] := by kernel_rfl
theorem agv_ : bn_ En.P 167 = some ⟨TK.st [(0, 1, false), (1, 1, false)], 2, V.ag [V.np, V.sl true []]⟩ := by kernel_rfl
theorem afc_ : bg_ En.P 167 = V.ag [V.np, V.sl true []] := by kernel_rfl
theorem afe_ : bn_ En.P 182 = some ⟨TK.other, 1, V.np⟩ := by kernel_rfl
theorem agc_ : bg_ En.P 182 = V.np := by kernel_rfl
theorem afi_ : bn_ En.P 183 = some ⟨TK.st [(0, 1, false), (1, 1, false), (2, 1, false)], 3, V.ag [V.sl true [], V.b false, V.i IntKind.i64 (0)]⟩ := by kernel_rfl
theorem aez_ : bg_ En.P 183 = V.ag [V.sl true [], V.b false, V.i IntKind.i64 (0)] := by kernel_rfl
theorem afl_ : bn_ En.P 184 = some ⟨TK.st [(0, 1, false), (1, 1, false), (2, 1, false)], 3, V.ag [V.sl true [], V.b false, V.i IntKind.i64 (0)]⟩ := by kernel_rfl
theorem agk_ : bg_ En.P 184 = V.ag [V.sl true [], V.b false, V.i IntKind.i64 (0)] := by kernel_rfl
theorem afq_ : bn_ En.P 194 = some ⟨TK.sl 56 1 24 [V.sl true []], 1, V.sl true []⟩ := by kernel_rfl
theorem af3_ : bg_ En.P 194 = V.sl true [] := by kernel_rfl
theorem afd_ : bn_ En.P 205 = some ⟨TK.other, 1, V.np⟩ := by kernel_rfl
theorem af0_ : bg_ En.P 205 = V.np := by kernel_rfl
theorem ae7_ : bn_ En.P 211 = some ⟨TK.int IntKind.u64, 1, V.i IntKind.u64 (0)⟩ := by kernel_rfl
theorem af1_ : bg_ En.P 211 = V.i IntKind.u64 (0) := by kernel_rfl
theorem afv_ : bn_ En.P 212 = some ⟨TK.other, 1, V.np⟩ := by kernel_rfl
theorem agb_ : bg_ En.P 212 = V.np := by kernel_rfl
theorem af4_ : bn_ En.P 220 = some ⟨TK.st [(0, 1, false), (1, 1, false)], 2, V.ag [V.i IntKind.u8 (0), V.i IntKind.u8 (0)]⟩ := by kernel_rfl
theorem afx_ : bg_ En.P 220 = V.ag [V.i IntKind.u8 (0), V.i IntKind.u8 (0)] := by kernel_rfl
theorem af6_ : bn_ En.P 221 = some ⟨TK.st [(0, 1, false), (1, 1, false)], 2, V.ag [V.i IntKind.u8 (0), V.i IntKind.u8 (0)]⟩ := by kernel_rfl
theorem agu_ : bg_ En.P 221 = V.ag [V.i IntKind.u8 (0), V.i IntKind.u8 (0)] := by kernel_rfl
theorem af9_ : bn_ En.P 223 = some ⟨TK.int IntKind.u32, 1, V.i IntKind.u32 (0)⟩ := by kernel_rfl
theorem aev_ : bg_ En.P 223 = V.i IntKind.u32 (0) := by kernel_rfl
theorem ae6_ : bn_ En.P 226 = some ⟨TK.int IntKind.i64, 1, V.i IntKind.i64 (0)⟩ := by kernel_rfl
theorem agq_ : bg_ En.P 226 = V.i IntKind.i64 (0) := by kernel_rfl
theorem afy_ : bn_ En.P 229 = some ⟨TK.other, 1, V.np⟩ := by kernel_rfl
theorem agr_ : bg_ En.P 229 = V.np := by kernel_rfl
end
section
mutual
def eC : E → List V
 | .mk k n s kids => [.i .i64 k, .i .i64 n, .s s, .sl false (eR kids)]
def eR : List E → List (List V)
 | [] => []
 | e :: r => eC e :: eR r
end
theorem eg_ (e : E) : eC e = [.i .i64 e.kind, .i .i64 e.n, .s e.s, .sl false (eR e.kids)] := by cases e; simp only [eC, E.kind, E.n, E.s, E.kids]
theorem j8_ : ∀ l : List E, eR l = l.map eC
 | [] => by simp only [eR, List.map_nil]
 | e :: r => by simp only [eR, List.map_cons, j8_ r]
theorem js_ (l : List E) : (eR l).length = l.length := by rw [j8_, List.length_map]
theorem c8_ {l : List E} {k : Nat} (h : k < l.length) : (eR l).getD k [] = eC (l.getD k E0) := by
 rw [j8_]; simp [List.getD_eq_getElem?_getD, List.getElem?_eq_getElem h]
mutual
theorem ach_ : ∀ e : E, cr_ (eC e) = true
 | .mk k n s kids => by simp only [eC, cr_, V.pure, go_ kids, Bool.and_self]
theorem go_ : ∀ l : List E, b4_ (eR l) = true
 | [] => by simp only [eR, b4_]
 | e :: r => by simp only [eR, b4_, ach_ e, go_ r, Bool.and_self]
end
def byR (b : Str) : List (List V) := b.map fun c => [.i .u8 c.toNat]
theorem aa1_ (b : Str) : (byR b).length = b.length := by simp [byR]
theorem rn_ : ∀ b : Str, b4_ (byR b) = true
 | [] => rfl
 | c :: b => by simp only [byR, List.map_cons, b4_, cr_, V.pure, Bool.true_and]; exact rn_ b
theorem pm_ {b : Str} {k : Nat} (h : k < b.length) : (byR b).getD k [] = [.i .u8 (b.getD k 0).toNat] := by
 simp [byR, List.getD_eq_getElem?_getD, List.getElem?_eq_getElem h]
theorem x1_ (b : Str) (k : Nat) : (byR b).take k = byR (b.take k) := by simp [byR, List.map_take]
theorem afr_ (a b c : Nat) (d : List V) : (∃ el z y zc, some (TK.sl a b c d) = some (TK.sl el z y zc)) = True := eq_true ⟨a, b, c, d, rfl⟩
end
section
attribute [go_sem] lxs ze_ gE gO evO obO z8_ yw_ St.pv St.ev peel c7_ pcB Op.operands Call.operands V.ofConst V.ofConst1 nm ac3_ ac4_ nz_ xw_ acx_ idxV idxC maxV minV i8_ fq_ pw_ q0_ TK.agg acy_ s4_ qf_ u2_ r0_ uw_ n2_ tq_ pj_ pp_ xq_ aunC jg_ ldV ldC cd_ stV okC stC fldV yx_ x4_ ixaC kb_ g9_ es_ isC kp_ extV extC vp_ lenC wa_ slcC bndC ioV mc_ y7_ su_ mkE V.one V.cells isB fo_ ee_ we_ sy_ pv_ sw_ wrL k5_ eh_ hb_ rnB rn rns rnr a5_ bv_ ac6_ dg_ sj_ adq_ ac0_ adj_ ac7_ wc_ j4_ up_ nilO nilV ol_ vo_ x5_ List.head?_cons List.head?_nil lt_ l1_ qg_ lend les leV ler dl_ dv_ bo_ bsO bsE cvO cvV e0_ frz fp_ if_ xz_ j6_ al_ ar_ cr_ b4_ V.pure cls clr V.cl ka_ V.flat us List.getD_cons_zero List.getD_cons_succ List.getD_nil List.set_cons_zero List.set_cons_succ List.set_nil List.getElem?_cons_zero List.getElem?_cons_succ List.getElem?_nil Option.map_some Option.map_none Option.bind_some Option.bind_none Option.getD_some Option.getD_none Option.isSome_some Option.isNone_none Option.isNone_some Option.toArray_some Option.toArray_none List.toList_toArray List.map_cons List.map_nil List.append_nil List.nil_append List.cons_append List.all_cons List.all_nil List.all_append List.isEmpty_nil List.isEmpty_cons List.reverse_cons List.reverse_nil List.drop_zero List.drop_succ_cons List.drop_nil List.take_zero List.take_succ_cons List.take_nil List.length_cons List.length_nil List.zip_cons_cons List.zip_nil_left List.zip_nil_right List.flatMap_cons List.flatMap_nil List.replicate_succ List.replicate_zero Array.toList_append List.getElem?_toArray Array.getD_eq_getD_getElem? Bool.true_and Bool.and_true Bool.false_and Bool.and_false Bool.not_true Bool.not_false Bool.and_self beq_self_eq_true and_true true_and and_self cond_true cond_false if_true if_false ite_true ite_false decide_true decide_false Bool.decide_eq_true true_implies implies_true imp_self Nat.zero_add Nat.le_refl Nat.add_zero Nat.zero_mul Int.toNat_zero List.contains_nil List.contains_cons Bool.or_false Bool.or_true Bool.false_or Bool.true_or true_or or_true eq_self List.append_toArray Bool.false_eq_true Array.size_empty List.push_toArray List.size_toArray Array.toList_map Array.toList_empty Bool.cond_false_right Bool.cond_true_left beq_true beq_false Int.toNat_natCast ac_ aa_ hq_ cv_ lj_ jp_ eg_ js_ go_ ady_ aa1_ rn_ x1_ afr_ ifO maxO zq_ vg_ xm_ xe_ adv_ aa3_ aec_ ty2 zo2 ty3 zo3 ty4 zo4 ty5 zo5 ty6 zo6 ty7 zo7 ty8 zo8 ty9 zo9 ty10 zo10 ty11 zo11 ty12 zo12 ty13 zo13 ty14 zo14 ty15 zo15 ty16 zo16 ty17 zo17 ty18 zo18 ty19 zo19 ty21 zo21 ty22 zo22 ty23 zo23 ty25 zo25 ty28 zo28 ty32 zo32 ty35 zo35 ty36 zo36 ty37 zo37 ty38 zo38 ty39 zo39 ty40 zo40 ty43 zo43 ty46 zo46 ty47 zo47 ty48 zo48 ty49 zo49 ty50 zo50 ty56 zo56 ty60 zo60 ty69 zo69 ty71 zo71 ty72 zo72 ty73 zo73 ty98 zo98 ty99 zo99 agw_ aey_ ae5_ afn_ afk_ afb_ aga_ af8_ ae0_ ags_ afs_ afw_ ago_ afa_ af5_ ae3_ afo_ ae2_ aff_ aex_ agl_ afg_ af7_ ae9_ agv_ afc_ afe_ agc_ afi_ aez_ afl_ agk_ afq_ af3_ afd_ af0_ ae7_ af1_ afv_ agb_ af4_ afx_ af6_ agu_ af9_ aev_ ae6_ agq_ afy_ agr_
end
end Go.Proofs.YtefmbmafdgedmaaGreatDoor
