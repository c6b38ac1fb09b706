/- The program as an environment of the tree logic: what its package variables hold. Conditions: none. -/
import Derived.Test.YtefmbmafdgedmaaGreatDoorKb
import Derived.Test.YtefmbmafdgedmaaGreatDoorProg
import Derived.Test.YtefmbmafdgedmaaGreatDoorKc
import Derived.Lib.LaidTab
set_option linter.unusedVariables false
set_option linter.unusedSimpArgs false
namespace Go.Proofs.YtefmbmafdgedmaaGreatDoor
section
open Go.RowKit
def ownW : List Str := [[108, 101, 116], [115, 97, 121], [119, 104, 101, 110], [97, 115], [112, 114, 105, 110, 116], [105, 102], [105, 110, 116], [98, 111, 111, 108]]
def cb_ (l : List Str) : List (List V) := l.map fun s => [.s s]
theorem ab_ (l : List Str) : (cb_ l).length = l.length := by simp [cb_]
theorem db_ {l : List Str} {k : Nat} (h : k < l.length) : (cb_ l).getD k [] = [.s (l.getD k [])] := by
 simp [cb_, T8_, T6_ h]
theorem aa_ : ∀ l : List Str, cw_ (cb_ l) = true
 | [] => rfl
 | s :: l => by simp only [cb_, List.map_cons, cw_, c9_, V.pure, Bool.true_and]; exact aa_ l
structure Gl (B : Nat) (w : World) : Prop where
 tab : Lib.TabIs Tryz.prog w "internal/strconv.uint64pow10" .u64 Lib.pow10Tab
 syn : ∃ tp p, w.var? Tryz.prog "strconv.ErrSyntax" = some #[.iface tp p]
 rng : ∃ tp p, w.var? Tryz.prog "strconv.ErrRange" = some #[.iface tp p]
 maxl : ∃ m : Int, w.cell? ⟨1, 0, none⟩ = some (.int .i64 m)
 many : 6 < B ∧ 4 < B ∧ 5 < B ∧ 1 < B
theorem m8_ {P : Program} {B g : Nat} {W W' : World} {n : String} {cs : Array Value} (h : ∀ g, g < B → W'.heap[g]? = W.heap[g]?) (hg : P.globalNamed n = some g) (hgB : g < B) (hv : W.var? P n = some cs) : W'.var? P n = some cs := by
 unfold World.var? at hv ⊢
 simp only [hg, Option.bind_some] at hv ⊢
 rw [h g hgB]
 exact hv
theorem gTab : Tryz.prog.globalNamed "internal/strconv.uint64pow10" = some 6 := by kernel_rfl
theorem gSyn : Tryz.prog.globalNamed "strconv.ErrSyntax" = some 4 := by kernel_rfl
theorem gRng : Tryz.prog.globalNamed "strconv.ErrRange" = some 5 := by kernel_rfl
theorem Gl.same {B : Nat} {w w' : World} (h : Gl B w) (hb : ∀ g, g < B → w'.heap[g]? = w.heap[g]?) : Gl B w' := by
 obtain ⟨m1, m2, m3, m4⟩ := h.many
 obtain ⟨m, hm⟩ := h.maxl
 obtain ⟨t1, p1, s1⟩ := h.syn
 obtain ⟨t2, p2, s2⟩ := h.rng
 exact ⟨m8_ hb gTab m1 h.tab, ⟨t1, p1, m8_ hb gSyn m2 s1⟩, ⟨t2, p2, m8_ hb gRng m3 s2⟩, ⟨m, by unfold World.cell? at hm ⊢; rw [hb _ m4]; exact hm⟩, h.many⟩
noncomputable def En : Env := ⟨Tryz.prog, fun g => if g = 0 then some [.sl false (cb_ ownW)] else none, Gl, fun _ _ _ h hb => h.same hb⟩
theorem als_ : En.G 0 = some [.sl false (cb_ ownW)] := rfl
theorem enM : En.P.follows .mixedOrders = true := by kernel_rfl
end
section
theorem ty2 : cc_ En.P 2 = some ⟨TK.int IntKind.i64, 1, V.i IntKind.i64 (0)⟩ := by kernel_rfl
theorem zo2 : b6_ En.P 2 = V.i IntKind.i64 (0) := by kernel_rfl
theorem ty3 : cc_ En.P 3 = some ⟨TK.int IntKind.i64, 1, V.i IntKind.i64 (0)⟩ := by kernel_rfl
theorem zo3 : b6_ En.P 3 = V.i IntKind.i64 (0) := by kernel_rfl
theorem ty4 : cc_ En.P 4 = some ⟨TK.bool, 1, V.b false⟩ := by kernel_rfl
theorem zo4 : b6_ En.P 4 = V.b false := by kernel_rfl
theorem ty5 : cc_ En.P 5 = some ⟨TK.int IntKind.u8, 1, V.i IntKind.u8 (0)⟩ := by kernel_rfl
theorem zo5 : b6_ En.P 5 = V.i IntKind.u8 (0) := by kernel_rfl
theorem ty6 : cc_ En.P 6 = some ⟨TK.int IntKind.u8, 1, V.i IntKind.u8 (0)⟩ := by kernel_rfl
theorem zo6 : b6_ En.P 6 = V.i IntKind.u8 (0) := by kernel_rfl
theorem ty7 : cc_ En.P 7 = some ⟨TK.st [(0, 1, false), (1, 1, false), (2, 1, false), (3, 1, false)], 4, V.ag [V.i IntKind.i64 (0), V.i IntKind.i64 (0), V.b false, V.i IntKind.u8 (0)]⟩ := by kernel_rfl
theorem zo7 : b6_ En.P 7 = V.ag [V.i IntKind.i64 (0), V.i IntKind.i64 (0), V.b false, V.i IntKind.u8 (0)] := by kernel_rfl
theorem ty8 : cc_ En.P 8 = some ⟨TK.st [(0, 1, false), (1, 1, false), (2, 1, false), (3, 1, false)], 4, V.ag [V.i IntKind.i64 (0), V.i IntKind.i64 (0), V.b false, V.i IntKind.u8 (0)]⟩ := by kernel_rfl
theorem zo8 : b6_ En.P 8 = V.ag [V.i IntKind.i64 (0), V.i IntKind.i64 (0), V.b false, V.i IntKind.u8 (0)] := by kernel_rfl
theorem ty9 : cc_ En.P 9 = some ⟨TK.str, 1, V.s []⟩ := by kernel_rfl
theorem zo9 : b6_ En.P 9 = V.s [] := by kernel_rfl
theorem ty10 : cc_ En.P 10 = some ⟨TK.str, 1, V.s []⟩ := by kernel_rfl
theorem zo10 : b6_ En.P 10 = V.s [] := by kernel_rfl
theorem ty11 : cc_ En.P 11 = some ⟨TK.str, 1, V.s []⟩ := by kernel_rfl
theorem zo11 : b6_ En.P 11 = V.s [] := by kernel_rfl
theorem ty12 : cc_ En.P 12 = some ⟨TK.int IntKind.u64, 1, V.i IntKind.u64 (0)⟩ := by kernel_rfl
theorem zo12 : b6_ En.P 12 = V.i IntKind.u64 (0) := by kernel_rfl
theorem ty13 : cc_ En.P 13 = some ⟨TK.st [(0, 1, false), (1, 1, false)], 2, V.ag [V.s [], V.i IntKind.u64 (0)]⟩ := by kernel_rfl
theorem zo13 : b6_ En.P 13 = V.ag [V.s [], V.i IntKind.u64 (0)] := by kernel_rfl
theorem ty14 : cc_ En.P 14 = some ⟨TK.st [(0, 1, false), (1, 1, false)], 2, V.ag [V.s [], V.i IntKind.u64 (0)]⟩ := by kernel_rfl
theorem zo14 : b6_ En.P 14 = V.ag [V.s [], V.i IntKind.u64 (0)] := by kernel_rfl
theorem ty15 : cc_ En.P 15 = some ⟨TK.other, 1, V.np⟩ := by kernel_rfl
theorem zo15 : b6_ En.P 15 = V.np := by kernel_rfl
theorem ty16 : cc_ En.P 16 = some ⟨TK.other, 1, V.np⟩ := by kernel_rfl
theorem zo16 : b6_ En.P 16 = V.np := by kernel_rfl
theorem ty17 : cc_ En.P 17 = some ⟨TK.other, 1, V.np⟩ := by kernel_rfl
theorem zo17 : b6_ En.P 17 = V.np := by kernel_rfl
theorem ty18 : cc_ En.P 18 = some ⟨TK.st [(0, 1, false)], 1, V.ag [V.np]⟩ := by kernel_rfl
theorem zo18 : b6_ En.P 18 = V.ag [V.np] := by kernel_rfl
theorem ty19 : cc_ En.P 19 = some ⟨TK.st [(0, 1, false)], 1, V.ag [V.np]⟩ := by kernel_rfl
theorem zo19 : b6_ En.P 19 = V.ag [V.np] := by kernel_rfl
theorem ty21 : cc_ En.P 21 = some ⟨TK.int IntKind.i32, 1, V.i IntKind.i32 (0)⟩ := by kernel_rfl
theorem zo21 : b6_ En.P 21 = V.i IntKind.i32 (0) := by kernel_rfl
theorem ty22 : cc_ En.P 22 = some ⟨TK.sl 5 1 1 [V.i IntKind.u8 (0)], 1, V.sl true []⟩ := by kernel_rfl
theorem zo22 : b6_ En.P 22 = V.sl true [] := by kernel_rfl
theorem ty23 : cc_ En.P 23 = some ⟨TK.sl 72 11 152 [V.i IntKind.i64 (0), V.s [], V.s [], V.i IntKind.i64 (0), V.i IntKind.i64 (0), V.s [], V.sl true [], V.i IntKind.i64 (0), V.i IntKind.i64 (0), V.s [], V.sl true []], 1, V.sl true []⟩ := by kernel_rfl
theorem zo23 : b6_ En.P 23 = V.sl true [] := by kernel_rfl
theorem ty25 : cc_ En.P 25 = some ⟨TK.sl 38 4 32 [V.i IntKind.i64 (0), V.i IntKind.i64 (0), V.i IntKind.i64 (0), V.i IntKind.i64 (0)], 1, V.sl true []⟩ := by kernel_rfl
theorem zo25 : b6_ En.P 25 = V.sl true [] := by kernel_rfl
theorem ty28 : cc_ En.P 28 = some ⟨TK.sl 9 1 16 [V.s []], 1, V.sl true []⟩ := by kernel_rfl
theorem zo28 : b6_ En.P 28 = V.sl true [] := by kernel_rfl
theorem ty32 : cc_ En.P 32 = some ⟨TK.sl 40 3 32 [V.i IntKind.i64 (0), V.s [], V.i IntKind.i64 (0)], 1, V.sl true []⟩ := by kernel_rfl
theorem zo32 : b6_ En.P 32 = V.sl true [] := by kernel_rfl
theorem ty35 : cc_ En.P 35 = some ⟨TK.st [(0, 1, false), (1, 1, false)], 2, V.ag [V.i IntKind.i64 (0), V.i IntKind.i64 (0)]⟩ := by kernel_rfl
theorem zo35 : b6_ En.P 35 = V.ag [V.i IntKind.i64 (0), V.i IntKind.i64 (0)] := by kernel_rfl
theorem ty36 : cc_ En.P 36 = some ⟨TK.st [(0, 1, false), (1, 1, false)], 2, V.ag [V.i IntKind.i64 (0), V.i IntKind.i64 (0)]⟩ := by kernel_rfl
theorem zo36 : b6_ En.P 36 = V.ag [V.i IntKind.i64 (0), V.i IntKind.i64 (0)] := by kernel_rfl
theorem ty37 : cc_ En.P 37 = some ⟨TK.st [(0, 2, true), (2, 2, true)], 4, V.ag [V.i IntKind.i64 (0), V.i IntKind.i64 (0), V.i IntKind.i64 (0), V.i IntKind.i64 (0)]⟩ := by kernel_rfl
theorem zo37 : b6_ En.P 37 = V.ag [V.i IntKind.i64 (0), V.i IntKind.i64 (0), V.i IntKind.i64 (0), V.i IntKind.i64 (0)] := by kernel_rfl
theorem ty38 : cc_ En.P 38 = some ⟨TK.st [(0, 2, true), (2, 2, true)], 4, V.ag [V.i IntKind.i64 (0), V.i IntKind.i64 (0), V.i IntKind.i64 (0), V.i IntKind.i64 (0)]⟩ := by kernel_rfl
theorem zo38 : b6_ En.P 38 = V.ag [V.i IntKind.i64 (0), V.i IntKind.i64 (0), V.i IntKind.i64 (0), V.i IntKind.i64 (0)] := by kernel_rfl
theorem ty39 : cc_ En.P 39 = some ⟨TK.st [(0, 1, false), (1, 1, false), (2, 1, false)], 3, V.ag [V.i IntKind.i64 (0), V.s [], V.i IntKind.i64 (0)]⟩ := by kernel_rfl
theorem zo39 : b6_ En.P 39 = V.ag [V.i IntKind.i64 (0), V.s [], V.i IntKind.i64 (0)] := by kernel_rfl
theorem ty40 : cc_ En.P 40 = some ⟨TK.st [(0, 1, false), (1, 1, false), (2, 1, false)], 3, V.ag [V.i IntKind.i64 (0), V.s [], V.i IntKind.i64 (0)]⟩ := by kernel_rfl
theorem zo40 : b6_ En.P 40 = V.ag [V.i IntKind.i64 (0), V.s [], V.i IntKind.i64 (0)] := by kernel_rfl
theorem ty43 : cc_ En.P 43 = some ⟨TK.sl 36 2 16 [V.i IntKind.i64 (0), V.i IntKind.i64 (0)], 1, V.sl true []⟩ := by kernel_rfl
theorem zo43 : b6_ En.P 43 = V.sl true [] := by kernel_rfl
theorem ty46 : cc_ En.P 46 = some ⟨TK.sl 48 4 56 [V.i IntKind.i64 (0), V.i IntKind.i64 (0), V.s [], V.sl true []], 1, V.sl true []⟩ := by kernel_rfl
theorem zo46 : b6_ En.P 46 = V.sl true [] := by kernel_rfl
theorem ty47 : cc_ En.P 47 = some ⟨TK.st [(0, 1, false), (1, 1, false), (2, 1, false), (3, 1, false)], 4, V.ag [V.i IntKind.i64 (0), V.i IntKind.i64 (0), V.s [], V.sl true []]⟩ := by kernel_rfl
theorem zo47 : b6_ En.P 47 = V.ag [V.i IntKind.i64 (0), V.i IntKind.i64 (0), V.s [], V.sl true []] := by kernel_rfl
theorem ty48 : cc_ En.P 48 = some ⟨TK.st [(0, 1, false), (1, 1, false), (2, 1, false), (3, 1, false)], 4, V.ag [V.i IntKind.i64 (0), V.i IntKind.i64 (0), V.s [], V.sl true []]⟩ := by kernel_rfl
theorem zo48 : b6_ En.P 48 = V.ag [V.i IntKind.i64 (0), V.i IntKind.i64 (0), V.s [], V.sl true []] := by kernel_rfl
theorem ty49 : cc_ En.P 49 = some ⟨TK.st [(0, 1, false), (1, 1, false), (2, 4, true), (6, 4, true)], 10, V.ag [V.i IntKind.i64 (0), V.s [], V.i IntKind.i64 (0), V.i IntKind.i64 (0), V.s [], V.sl true [], V.i IntKind.i64 (0), V.i IntKind.i64 (0), V.s [], V.sl true []]⟩ := by kernel_rfl
theorem zo49 : b6_ En.P 49 = V.ag [V.i IntKind.i64 (0), V.s [], V.i IntKind.i64 (0), V.i IntKind.i64 (0), V.s [], V.sl true [], V.i IntKind.i64 (0), V.i IntKind.i64 (0), V.s [], V.sl true []] := by kernel_rfl
theorem ty50 : cc_ En.P 50 = some ⟨TK.st [(0, 1, false), (1, 1, false), (2, 4, true), (6, 4, true)], 10, V.ag [V.i IntKind.i64 (0), V.s [], V.i IntKind.i64 (0), V.i IntKind.i64 (0), V.s [], V.sl true [], V.i IntKind.i64 (0), V.i IntKind.i64 (0), V.s [], V.sl true []]⟩ := by kernel_rfl
theorem zo50 : b6_ En.P 50 = V.ag [V.i IntKind.i64 (0), V.s [], V.i IntKind.i64 (0), V.i IntKind.i64 (0), V.s [], V.sl true [], V.i IntKind.i64 (0), V.i IntKind.i64 (0), V.s [], V.sl true []] := by kernel_rfl
theorem ty56 : cc_ En.P 56 = some ⟨TK.sl 99 4 64 [V.s [], V.b false, V.s [], V.sl true []], 1, V.sl true []⟩ := by kernel_rfl
theorem zo56 : b6_ En.P 56 = V.sl true [] := by kernel_rfl
theorem ty60 : cc_ En.P 60 = some ⟨TK.sl 105 4 64 [V.s [], V.b false, V.s [], V.sl true []], 1, V.sl true []⟩ := by kernel_rfl
theorem zo60 : b6_ En.P 60 = V.sl true [] := by kernel_rfl
theorem ty69 : cc_ En.P 69 = some ⟨TK.other, 1, V.np⟩ := by kernel_rfl
theorem zo69 : b6_ En.P 69 = V.np := by kernel_rfl
theorem ty71 : cc_ En.P 71 = some ⟨TK.st [(0, 1, false), (1, 1, false), (2, 1, false), (3, 4, true), (7, 4, true)], 11, V.ag [V.i IntKind.i64 (0), V.s [], V.s [], V.i IntKind.i64 (0), V.i IntKind.i64 (0), V.s [], V.sl true [], V.i IntKind.i64 (0), V.i IntKind.i64 (0), V.s [], V.sl true []]⟩ := by kernel_rfl
theorem zo71 : b6_ En.P 71 = V.ag [V.i IntKind.i64 (0), V.s [], V.s [], V.i IntKind.i64 (0), V.i IntKind.i64 (0), V.s [], V.sl true [], V.i IntKind.i64 (0), V.i IntKind.i64 (0), V.s [], V.sl true []] := by kernel_rfl
theorem ty72 : cc_ En.P 72 = some ⟨TK.st [(0, 1, false), (1, 1, false), (2, 1, false), (3, 4, true), (7, 4, true)], 11, V.ag [V.i IntKind.i64 (0), V.s [], V.s [], V.i IntKind.i64 (0), V.i IntKind.i64 (0), V.s [], V.sl true [], V.i IntKind.i64 (0), V.i IntKind.i64 (0), V.s [], V.sl true []]⟩ := by kernel_rfl
theorem zo72 : b6_ En.P 72 = V.ag [V.i IntKind.i64 (0), V.s [], V.s [], V.i IntKind.i64 (0), V.i IntKind.i64 (0), V.s [], V.sl true [], V.i IntKind.i64 (0), V.i IntKind.i64 (0), V.s [], V.sl true []] := by kernel_rfl
theorem ty73 : cc_ En.P 73 = some ⟨TK.sl 3 1 8 [V.i IntKind.i64 (0)], 1, V.sl true []⟩ := by kernel_rfl
theorem zo73 : b6_ En.P 73 = V.sl true [] := by kernel_rfl
theorem ty98 : cc_ En.P 98 = some ⟨TK.st [(0, 1, false), (1, 1, false), (2, 1, false), (3, 1, false)], 4, V.ag [V.s [], V.b false, V.s [], V.sl true []]⟩ := by kernel_rfl
theorem zo98 : b6_ En.P 98 = V.ag [V.s [], V.b false, V.s [], V.sl true []] := by kernel_rfl
theorem ty99 : cc_ En.P 99 = some ⟨TK.st [(0, 1, false), (1, 1, false), (2, 1, false), (3, 1, false)], 4, V.ag [V.s [], V.b false, V.s [], V.sl true []]⟩ := by kernel_rfl
theorem zo99 : b6_ En.P 99 = V.ag [V.s [], V.b false, V.s [], V.sl true []] := by kernel_rfl
theorem aoe_ : cc_ En.P 105 = some ⟨TK.st [(0, 1, false), (1, 1, false), (2, 1, false), (3, 1, false)], 4, V.ag [V.s [], V.b false, V.s [], V.sl true []]⟩ := by kernel_rfl
theorem aob_ : b6_ En.P 105 = V.ag [V.s [], V.b false, V.s [], V.sl true []] := by kernel_rfl
theorem anm_ : cc_ En.P 112 = some ⟨TK.st [(0, 1, false), (1, 1, false)], 2, V.ag [V.sl true [], V.i IntKind.i64 (0)]⟩ := by kernel_rfl
theorem aof_ : b6_ En.P 112 = V.ag [V.sl true [], V.i IntKind.i64 (0)] := by kernel_rfl
theorem ane_ : cc_ En.P 113 = some ⟨TK.st [(0, 1, false), (1, 1, false)], 2, V.ag [V.sl true [], V.i IntKind.i64 (0)]⟩ := by kernel_rfl
theorem am9_ : b6_ En.P 113 = V.ag [V.sl true [], V.i IntKind.i64 (0)] := by kernel_rfl
theorem an8_ : cc_ En.P 117 = some ⟨TK.sl 121 2 24 [V.s [], V.i IntKind.i64 (0)], 1, V.sl true []⟩ := by kernel_rfl
theorem amn_ : b6_ En.P 117 = V.sl true [] := by kernel_rfl
theorem an0_ : cc_ En.P 120 = some ⟨TK.st [(0, 1, false), (1, 1, false)], 2, V.ag [V.s [], V.i IntKind.i64 (0)]⟩ := by kernel_rfl
theorem amw_ : b6_ En.P 120 = V.ag [V.s [], V.i IntKind.i64 (0)] := by kernel_rfl
theorem an5_ : cc_ En.P 121 = some ⟨TK.st [(0, 1, false), (1, 1, false)], 2, V.ag [V.s [], V.i IntKind.i64 (0)]⟩ := by kernel_rfl
theorem ams_ : b6_ En.P 121 = V.ag [V.s [], V.i IntKind.i64 (0)] := by kernel_rfl
theorem aod_ : cc_ En.P 154 = some ⟨TK.other, 1, V.np⟩ := by kernel_rfl
theorem any_ : b6_ En.P 154 = V.np := by kernel_rfl
theorem anv_ : cc_ En.P 157 = some ⟨TK.sl 161 2 24 [V.s [], V.i IntKind.i64 (0)], 1, V.sl true []⟩ := by kernel_rfl
theorem amy_ : b6_ En.P 157 = V.sl true [] := by kernel_rfl
theorem aoh_ : cc_ En.P 160 = some ⟨TK.st [(0, 1, false), (1, 1, false)], 2, V.ag [V.s [], V.i IntKind.i64 (0)]⟩ := by kernel_rfl
theorem am1_ : b6_ En.P 160 = V.ag [V.s [], V.i IntKind.i64 (0)] := by kernel_rfl
theorem ana_ : cc_ En.P 161 = some ⟨TK.st [(0, 1, false), (1, 1, false)], 2, V.ag [V.s [], V.i IntKind.i64 (0)]⟩ := by kernel_rfl
theorem amx_ : b6_ En.P 161 = V.ag [V.s [], V.i IntKind.i64 (0)] := by kernel_rfl
theorem amp_ : cc_ En.P 165 = some ⟨TK.other, 1, V.np⟩ := by kernel_rfl
theorem aok_ : b6_ En.P 165 = V.np := by kernel_rfl
theorem ank_ : cc_ En.P 166 = some ⟨TK.st [(0, 1, false), (1, 1, false)], 2, V.ag [V.np, V.sl true []]⟩ := by kernel_rfl
theorem anf_ : b6_ En.P 166 = V.ag [V.np, V.sl true []] := by kernel_rfl
theorem aol_ : cc_ En.P 167 = some ⟨TK.st [(0, 1, false), (1, 1, false)], 2, V.ag [V.np, V.sl true []]⟩ := by kernel_rfl
theorem am3_ : b6_ En.P 167 = V.ag [V.np, V.sl true []] := by kernel_rfl
theorem anq_ : cc_ En.P 182 = some ⟨TK.other, 1, V.np⟩ := by kernel_rfl
theorem an3_ : b6_ En.P 182 = V.np := by kernel_rfl
theorem am2_ : cc_ En.P 183 = some ⟨TK.st [(0, 1, false), (1, 1, false), (2, 1, false)], 3, V.ag [V.sl true [], V.b false, V.i IntKind.i64 (0)]⟩ := by kernel_rfl
theorem ani_ : b6_ En.P 183 = V.ag [V.sl true [], V.b false, V.i IntKind.i64 (0)] := by kernel_rfl
theorem am4_ : cc_ En.P 184 = some ⟨TK.st [(0, 1, false), (1, 1, false), (2, 1, false)], 3, V.ag [V.sl true [], V.b false, V.i IntKind.i64 (0)]⟩ := by kernel_rfl
theorem aoa_ : b6_ En.P 184 = V.ag [V.sl true [], V.b false, V.i IntKind.i64 (0)] := by kernel_rfl
theorem anl_ : cc_ En.P 194 = some ⟨TK.sl 56 1 24 [V.sl true []], 1, V.sl true []⟩ := by kernel_rfl
theorem amq_ : b6_ En.P 194 = V.sl true [] := by kernel_rfl
theorem an9_ : cc_ En.P 205 = some ⟨TK.other, 1, V.np⟩ := by kernel_rfl
theorem am5_ : b6_ En.P 205 = V.np := by kernel_rfl
theorem anr_ : cc_ En.P 211 = some ⟨TK.int IntKind.u64, 1, V.i IntKind.u64 (0)⟩ := by kernel_rfl
theorem am0_ : b6_ En.P 211 = V.i IntKind.u64 (0) := by kernel_rfl
theorem amo_ : cc_ En.P 212 = some ⟨TK.other, 1, V.np⟩ := by kernel_rfl
theorem ang_ : b6_ En.P 212 = V.np := by kernel_rfl
theorem aoc_ : cc_ En.P 220 = some ⟨TK.st [(0, 1, false), (1, 1, false)], 2, V.ag [V.i IntKind.u8 (0), V.i IntKind.u8 (0)]⟩ := by kernel_rfl
theorem an7_ : b6_ En.P 220 = V.ag [V.i IntKind.u8 (0), V.i IntKind.u8 (0)] := by kernel_rfl
theorem anh_ : cc_ En.P 221 = some ⟨TK.st [(0, 1, false), (1, 1, false)], 2, V.ag [V.i IntKind.u8 (0), V.i IntKind.u8 (0)]⟩ := by kernel_rfl
theorem aog_ : b6_ En.P 221 = V.ag [V.i IntKind.u8 (0), V.i IntKind.u8 (0)] := by kernel_rfl
theorem aoj_ : cc_ En.P 223 = some ⟨TK.int IntKind.u32, 1, V.i IntKind.u32 (0)⟩ := by kernel_rfl
theorem amz_ : b6_ En.P 223 = V.i IntKind.u32 (0) := by kernel_rfl
theorem anc_ : cc_ En.P 226 = some ⟨TK.int IntKind.i64, 1, V.i IntKind.i64 (0)⟩ := by kernel_rfl
theorem and_ : b6_ En.P 226 = V.i IntKind.i64 (0) := by kernel_rfl
theorem ant_ : cc_ En.P 229 = some ⟨TK.other, 1, V.np⟩ := by kernel_rfl
theorem am8_ : b6_ En.P 229 = V.np := by kernel_rfl
end
section
mutual
def eC : E → List V
 | .mk k n s kids => [.i .i64 k, .i .i64 n, .s s, .sl false (eR kids)]
def eR : List E → List (List V)
 | [] => []
 | e :: r => eC e :: eR r
end
theorem bs_ (e : E) : eC e = [.i .i64 e.kind, .i .i64 e.n, .s e.s, .sl false (eR e.kids)] := by cases e; simp only [eC, E.kind, E.n, E.s, E.kids]
theorem n3_ : ∀ l : List E, eR l = l.map eC
 | [] => by simp only [eR, List.map_nil]
 | e :: r => by simp only [eR, List.map_cons, n3_ r]
theorem ny_ (l : List E) : (eR l).length = l.length := by rw [n3_, List.length_map]
theorem ew_ {l : List E} {k : Nat} (h : k < l.length) : (eR l).getD k [] = eC (l.getD k E0) := by
 rw [n3_]; simp [T8_, T6_ h]
mutual
theorem ajv_ : ∀ e : E, c9_ (eC e) = true
 | .mk k n s kids => by simp only [eC, c9_, V.pure, ji_ kids, Bool.and_self]
theorem ji_ : ∀ l : List E, cw_ (eR l) = true
 | [] => by simp only [eR, cw_]
 | e :: r => by simp only [eR, cw_, ajv_ e, ji_ r, Bool.and_self]
end
def byR (b : Str) : List (List V) := b.map fun c => [.i .u8 c.toNat]
theorem ake_ (b : Str) : (byR b).length = b.length := by simp [byR]
theorem w4_ : ∀ b : Str, cw_ (byR b) = true
 | [] => rfl
 | c :: b => by simp only [byR, List.map_cons, cw_, c9_, V.pure, Bool.true_and]; exact w4_ b
theorem byR_get {b : Str} {k : Nat} (h : k < b.length) : (byR b).getD k [] = [.i .u8 (b.getD k 0).toNat] := by
 simp [byR, T8_, T6_ h]
theorem adv_ (b : Str) (k : Nat) : (byR b).take k = byR (b.take k) := by simp [byR, List.map_take]
theorem ano_ (a b c : Nat) (d : List V) : (∃ el z y zc, some (TK.sl a b c d) = some (TK.sl el z y zc)) = True := eq_true ⟨a, b, c, d, rfl⟩
end
section
attribute [go_sem] lxs agm_ gE gO evO obO agt_ afo_ St.pv St.ev peel eo_ pcB Op.operands Call.operands V.ofConst V.ofConst1 nm aks_ akl_ th_ agw_ ak5_ idxV idxC maxV minV m1_ h5_ t9_ va_ TK.agg akm_ zf_ vf_ aaj_ xu_ aav_ sr_ aa4_ ul_ tr_ aunV aunC nn_ ldV ldC dm_ stV okC stC fldV fldC ixaV ixaC om_ ka_ g1_ isC oz_ extV extC lenV lenC slcV slcC bndC ioV os_ appC zb_ mkE V.one V.cells isB h1_ gn_ ry_ f0_ hl_ y6_ wrL o0_ e1_ hv_ rnB rn rns rnr bj_ c4_ ak0_ dc_ ac8_ aec_ ak4_ ako_ aku_ newE nz_ zu_ nilO nilV tf_ abc_ af7_ List.head?_cons List.head?_nil of_ ra_ w0_ lend les leV ler gj_ e3_ by_ bsO bsE cvO cvV ha_ frz gi_ hh_ frzB nt_ an_ ar_ c9_ cw_ V.pure cls clr V.cl oq_ V.flat us List.getD_cons_zero List.getD_cons_succ List.getD_nil List.set_cons_zero List.set_cons_succ List.set_nil List.getElem?_cons_zero List.getElem?_cons_succ List.getElem?_nil Option.map_some Option.map_none Option.bind_some Option.bind_none Option.getD_some Option.getD_none Option.isSome_some Option.isNone_none Option.isNone_some Option.toArray_some Option.toArray_none List.toList_toArray List.map_cons List.map_nil List.append_nil List.nil_append List.cons_append List.all_cons List.all_nil List.all_append List.isEmpty_nil List.isEmpty_cons List.reverse_cons List.reverse_nil List.drop_zero List.drop_succ_cons List.drop_nil List.take_zero List.take_succ_cons List.take_nil T7_ List.length_nil List.zip_cons_cons List.zip_nil_left List.zip_nil_right List.flatMap_cons List.flatMap_nil List.replicate_succ List.replicate_zero Array.toList_append List.getElem?_toArray Array.getD_eq_getD_getElem? Bool.true_and Bool.and_true Bool.false_and Bool.and_false Bool.not_true Bool.not_false Bool.and_self beq_self_eq_true and_true true_and and_self cond_true cond_false if_true if_false ite_true ite_false decide_true decide_false Bool.decide_eq_true true_implies implies_true imp_self Nat.zero_add Nat.le_refl Nat.add_zero Nat.zero_mul Int.toNat_zero List.contains_nil List.contains_cons Bool.or_false Bool.or_true Bool.false_or Bool.true_or T9_ Ta_ eq_self List.append_toArray Bool.false_eq_true Array.size_empty List.push_toArray List.size_toArray Array.toList_map Array.toList_empty Bool.cond_false_right Bool.cond_true_left beq_true beq_false Int.toNat_natCast ab_ aa_ gy_ cz_ g4_ iz_ bs_ ny_ ji_ als_ ake_ w4_ adv_ ano_ ifO maxO ae3_ abm_ aer_ agy_ alj_ aib_ al4_ ty2 zo2 ty3 zo3 ty4 zo4 ty5 zo5 ty6 zo6 ty7 zo7 ty8 zo8 ty9 zo9 ty10 zo10 ty11 zo11 ty12 zo12 ty13 zo13 ty14 zo14 ty15 zo15 ty16 zo16 ty17 zo17 ty18 zo18 ty19 zo19 ty21 zo21 ty22 zo22 ty23 zo23 ty25 zo25 ty28 zo28 ty32 zo32 ty35 zo35 ty36 zo36 ty37 zo37 ty38 zo38 ty39 zo39 ty40 zo40 ty43 zo43 ty46 zo46 ty47 zo47 ty48 zo48 ty49 zo49 ty50 zo50 ty56 zo56 ty60 zo60 ty69 zo69 ty71 zo71 ty72 zo72 ty73 zo73 ty98 zo98 ty99 zo99 aoe_ aob_ anm_ aof_ ane_ am9_ an8_ amn_ an0_ amw_ an5_ ams_ aod_ any_ anv_ amy_ aoh_ am1_ ana_ amx_ amp_ aok_ ank_ anf_ aol_ am3_ anq_ an3_ am2_ ani_ am4_ aoa_ anl_ amq_ an9_ am5_ anr_ am0_ amo_ ang_ aoc_ an7_ anh_ aog_ aoj_ amz_ anc_ and_ ant_ am8_
end
end Go.Proofs.YtefmbmafdgedmaaGreatDoor
