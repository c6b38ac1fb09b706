/- The program as an environment of the tree logic: what its package variables hold. Conditions: none. -/
import Derived.Test.YtefmbmafdgedmaaGreatDoorKb
import Derived.Test.YtefmbmafdgedmaaGreatDoorProg
import Derived.Test.YtefmbmafdgedmaaGreatDoorKc
import Derived.Lib.LaidTab
set_option linter.unusedVariables false
set_option linter.unusedSimpArgs false
namespace Go.Proofs.YtefmbmafdgedmaaGreatDoor
section
open Go.RowKit
def ownW : List Str := [[108, 101, 116], [115, 97, 121], [119, 104, 101, 110], [97, 115], [112, 114, 105, 110, 116], [105, 102], [105, 110, 116], [98, 111, 111, 108]]
def by_ (l : List Str) : List (List V) := l.map fun s => [.s s]
theorem ab_ (l : List Str) : (by_ l).length = l.length := by simp [by_]
theorem dl_ {l : List Str} {k : Nat} (h : k < l.length) : (by_ l).getD k [] = [.s (l.getD k [])] := by
 simp [by_, T8_, T6_ h]
theorem aa_ : ∀ l : List Str, cr_ (by_ l) = true
 | [] => rfl
 | s :: l => by simp only [by_, List.map_cons, cr_, dp_, V.pure, Bool.true_and]; exact aa_ l
structure Gl (B : Nat) (w : World) : Prop where
 tab : Lib.TabIs Tryz.prog w "internal/strconv.uint64pow10" .u64 Lib.pow10Tab
 syn : ∃ tp p, w.var? Tryz.prog "strconv.ErrSyntax" = some #[.iface tp p]
 rng : ∃ tp p, w.var? Tryz.prog "strconv.ErrRange" = some #[.iface tp p]
 maxl : ∃ m : Int, w.cell? ⟨1, 0, none⟩ = some (.int .i64 m)
 many : 6 < B ∧ 4 < B ∧ 5 < B ∧ 1 < B
theorem lu_ {P : Program} {B g : Nat} {W W' : World} {n : String} {cs : Array Value} (h : ∀ g, g < B → W'.heap[g]? = W.heap[g]?) (hg : P.globalNamed n = some g) (hgB : g < B) (hv : W.var? P n = some cs) : W'.var? P n = some cs := by
 unfold World.var? at hv ⊢
 simp only [hg, Option.bind_some] at hv ⊢
 rw [h g hgB]
 exact hv
theorem gTab : Tryz.prog.globalNamed "internal/strconv.uint64pow10" = some 6 := by kernel_rfl
theorem gSyn : Tryz.prog.globalNamed "strconv.ErrSyntax" = some 4 := by kernel_rfl
theorem gRng : Tryz.prog.globalNamed "strconv.ErrRange" = some 5 := by kernel_rfl
theorem Gl.same {B : Nat} {w w' : World} (h : Gl B w) (hb : ∀ g, g < B → w'.heap[g]? = w.heap[g]?) : Gl B w' := by
 obtain ⟨m1, m2, m3, m4⟩ := h.many
 obtain ⟨m, hm⟩ := h.maxl
 obtain ⟨t1, p1, s1⟩ := h.syn
 obtain ⟨t2, p2, s2⟩ := h.rng
 exact ⟨lu_ hb gTab m1 h.tab, ⟨t1, p1, lu_ hb gSyn m2 s1⟩, ⟨t2, p2, lu_ hb gRng m3 s2⟩, ⟨m, by unfold World.cell? at hm ⊢; rw [hb _ m4]; exact hm⟩, h.many⟩
noncomputable def En : Env := ⟨Tryz.prog, fun g => if g = 0 then some [.sl false (by_ ownW)] else none, Gl, fun _ _ _ h hb => h.same hb⟩
theorem aew_ : En.G 0 = some [.sl false (by_ ownW)] := rfl
theorem enM : En.P.follows .mixedOrders = true := by kernel_rfl
end
section
theorem ty2 : bz_ En.P 2 = some ⟨TK.int IntKind.i64, 1, V.i IntKind.i64 (0)⟩ := by kernel_rfl
theorem zo2 : bp_ En.P 2 = V.i IntKind.i64 (0) := by kernel_rfl
theorem ty3 : bz_ En.P 3 = some ⟨TK.int IntKind.i64, 1, V.i IntKind.i64 (0)⟩ := by kernel_rfl
theorem zo3 : bp_ En.P 3 = V.i IntKind.i64 (0) := by kernel_rfl
theorem ty4 : bz_ En.P 4 = some ⟨TK.bool, 1, V.b false⟩ := by kernel_rfl
theorem zo4 : bp_ En.P 4 = V.b false := by kernel_rfl
theorem ty5 : bz_ En.P 5 = some ⟨TK.int IntKind.u8, 1, V.i IntKind.u8 (0)⟩ := by kernel_rfl
theorem zo5 : bp_ En.P 5 = V.i IntKind.u8 (0) := by kernel_rfl
theorem ty6 : bz_ En.P 6 = some ⟨TK.int IntKind.u8, 1, V.i IntKind.u8 (0)⟩ := by kernel_rfl
theorem zo6 : bp_ En.P 6 = V.i IntKind.u8 (0) := by kernel_rfl
theorem ty7 : bz_ En.P 7 = some ⟨TK.st [(0, 1, false), (1, 1, false), (2, 1, false), (3, 1, false)], 4, V.ag [V.i IntKind.i64 (0), V.i IntKind.i64 (0), V.b false, V.i IntKind.u8 (0)]⟩ := by kernel_rfl
theorem zo7 : bp_ En.P 7 = V.ag [V.i IntKind.i64 (0), V.i IntKind.i64 (0), V.b false, V.i IntKind.u8 (0)] := by kernel_rfl
theorem ty8 : bz_ En.P 8 = some ⟨TK.st [(0, 1, false), (1, 1, false), (2, 1, false), (3, 1, false)], 4, V.ag [V.i IntKind.i64 (0), V.i IntKind.i64 (0), V.b false, V.i IntKind.u8 (0)]⟩ := by kernel_rfl
theorem zo8 : bp_ En.P 8 = V.ag [V.i IntKind.i64 (0), V.i IntKind.i64 (0), V.b false, V.i IntKind.u8 (0)] := by kernel_rfl
theorem ty9 : bz_ En.P 9 = some ⟨TK.str, 1, V.s []⟩ := by kernel_rfl
theorem zo9 : bp_ En.P 9 = V.s [] := by kernel_rfl
theorem ty10 : bz_ En.P 10 = some ⟨TK.str, 1, V.s []⟩ := by kernel_rfl
theorem zo10 : bp_ En.P 10 = V.s [] := by kernel_rfl
theorem ty11 : bz_ En.P 11 = some ⟨TK.str, 1, V.s []⟩ := by kernel_rfl
theorem zo11 : bp_ En.P 11 = V.s [] := by kernel_rfl
theorem ty12 : bz_ En.P 12 = some ⟨TK.int IntKind.u64, 1, V.i IntKind.u64 (0)⟩ := by kernel_rfl
theorem zo12 : bp_ En.P 12 = V.i IntKind.u64 (0) := by kernel_rfl
theorem ty13 : bz_ En.P 13 = some ⟨TK.st [(0, 1, false), (1, 1, false)], 2, V.ag [V.s [], V.i IntKind.u64 (0)]⟩ := by kernel_rfl
theorem zo13 : bp_ En.P 13 = V.ag [V.s [], V.i IntKind.u64 (0)] := by kernel_rfl
theorem ty14 : bz_ En.P 14 = some ⟨TK.st [(0, 1, false), (1, 1, false)], 2, V.ag [V.s [], V.i IntKind.u64 (0)]⟩ := by kernel_rfl
theorem zo14 : bp_ En.P 14 = V.ag [V.s [], V.i IntKind.u64 (0)] := by kernel_rfl
theorem ty15 : bz_ En.P 15 = some ⟨TK.other, 1, V.np⟩ := by kernel_rfl
theorem zo15 : bp_ En.P 15 = V.np := by kernel_rfl
theorem ty16 : bz_ En.P 16 = some ⟨TK.other, 1, V.np⟩ := by kernel_rfl
theorem zo16 : bp_ En.P 16 = V.np := by kernel_rfl
theorem ty17 : bz_ En.P 17 = some ⟨TK.other, 1, V.np⟩ := by kernel_rfl
theorem zo17 : bp_ En.P 17 = V.np := by kernel_rfl
theorem ty18 : bz_ En.P 18 = some ⟨TK.st [(0, 1, false)], 1, V.ag [V.np]⟩ := by kernel_rfl
theorem zo18 : bp_ En.P 18 = V.ag [V.np] := by kernel_rfl
theorem ty19 : bz_ En.P 19 = some ⟨TK.st [(0, 1, false)], 1, V.ag [V.np]⟩ := by kernel_rfl
theorem zo19 : bp_ En.P 19 = V.ag [V.np] := by kernel_rfl
theorem ty21 : bz_ En.P 21 = some ⟨TK.int IntKind.i32, 1, V.i IntKind.i32 (0)⟩ := by kernel_rfl
theorem zo21 : bp_ En.P 21 = V.i IntKind.i32 (0) := by kernel_rfl
theorem ty22 : bz_ En.P 22 = some ⟨TK.sl 5 1 1 [V.i IntKind.u8 (0)], 1, V.sl true []⟩ := by kernel_rfl
theorem zo22 : bp_ En.P 22 = V.sl true [] := by kernel_rfl
theorem ty23 : bz_ En.P 23 = some ⟨TK.sl 72 11 152 [V.i IntKind.i64 (0), V.s [], V.s [], V.i IntKind.i64 (0), V.i IntKind.i64 (0), V.s [], V.sl true [], V.i IntKind.i64 (0), V.i IntKind.i64 (0), V.s [], V.sl true []], 1, V.sl true []⟩ := by kernel_rfl
theorem zo23 : bp_ En.P 23 = V.sl true [] := by kernel_rfl
theorem ty25 : bz_ En.P 25 = some ⟨TK.sl 38 4 32 [V.i IntKind.i64 (0), V.i IntKind.i64 (0), V.i IntKind.i64 (0), V.i IntKind.i64 (0)], 1, V.sl true []⟩ := by kernel_rfl
theorem zo25 : bp_ En.P 25 = V.sl true [] := by kernel_rfl
theorem ty28 : bz_ En.P 28 = some ⟨TK.sl 9 1 16 [V.s []], 1, V.sl true []⟩ := by kernel_rfl
theorem zo28 : bp_ En.P 28 = V.sl true [] := by kernel_rfl
theorem ty32 : bz_ En.P 32 = some ⟨TK.sl 40 3 32 [V.i IntKind.i64 (0), V.s [], V.i IntKind.i64 (0)], 1, V.sl true []⟩ := by kernel_rfl
theorem zo32 : bp_ En.P 32 = V.sl true [] := by kernel_rfl
theorem ty35 : bz_ En.P 35 = some ⟨TK.st [(0, 1, false), (1, 1, false)], 2, V.ag [V.i IntKind.i64 (0), V.i IntKind.i64 (0)]⟩ := by kernel_rfl
theorem zo35 : bp_ En.P 35 = V.ag [V.i IntKind.i64 (0), V.i IntKind.i64 (0)] := by kernel_rfl
theorem ty36 : bz_ En.P 36 = some ⟨TK.st [(0, 1, false), (1, 1, false)], 2, V.ag [V.i IntKind.i64 (0), V.i IntKind.i64 (0)]⟩ := by kernel_rfl
theorem zo36 : bp_ En.P 36 = V.ag [V.i IntKind.i64 (0), V.i IntKind.i64 (0)] := by kernel_rfl
theorem ty37 : bz_ En.P 37 = some ⟨TK.st [(0, 2, true), (2, 2, true)], 4, V.ag [V.i IntKind.i64 (0), V.i IntKind.i64 (0), V.i IntKind.i64 (0), V.i IntKind.i64 (0)]⟩ := by kernel_rfl
theorem zo37 : bp_ En.P 37 = V.ag [V.i IntKind.i64 (0), V.i IntKind.i64 (0), V.i IntKind.i64 (0), V.i IntKind.i64 (0)] := by kernel_rfl
theorem ty38 : bz_ En.P 38 = some ⟨TK.st [(0, 2, true), (2, 2, true)], 4, V.ag [V.i IntKind.i64 (0), V.i IntKind.i64 (0), V.i IntKind.i64 (0), V.i IntKind.i64 (0)]⟩ := by kernel_rfl
theorem zo38 : bp_ En.P 38 = V.ag [V.i IntKind.i64 (0), V.i IntKind.i64 (0), V.i IntKind.i64 (0), V.i IntKind.i64 (0)] := by kernel_rfl
theorem ty39 : bz_ En.P 39 = some ⟨TK.st [(0, 1, false), (1, 1, false), (2, 1, false)], 3, V.ag [V.i IntKind.i64 (0), V.s [], V.i IntKind.i64 (0)]⟩ := by kernel_rfl
theorem zo39 : bp_ En.P 39 = V.ag [V.i IntKind.i64 (0), V.s [], V.i IntKind.i64 (0)] := by kernel_rfl
theorem ty40 : bz_ En.P 40 = some ⟨TK.st [(0, 1, false), (1, 1, false), (2, 1, false)], 3, V.ag [V.i IntKind.i64 (0), V.s [], V.i IntKind.i64 (0)]⟩ := by kernel_rfl
theorem zo40 : bp_ En.P 40 = V.ag [V.i IntKind.i64 (0), V.s [], V.i IntKind.i64 (0)] := by kernel_rfl
theorem ty43 : bz_ En.P 43 = some ⟨TK.sl 36 2 16 [V.i IntKind.i64 (0), V.i IntKind.i64 (0)], 1, V.sl true []⟩ := by kernel_rfl
theorem zo43 : bp_ En.P 43 = V.sl true [] := by kernel_rfl
theorem ty46 : bz_ En.P 46 = some ⟨TK.sl 48 4 56 [V.i IntKind.i64 (0), V.i IntKind.i64 (0), V.s [], V.sl true []], 1, V.sl true []⟩ := by kernel_rfl
theorem zo46 : bp_ En.P 46 = V.sl true [] := by kernel_rfl
theorem ty47 : bz_ En.P 47 = some ⟨TK.st [(0, 1, false), (1, 1, false), (2, 1, false), (3, 1, false)], 4, V.ag [V.i IntKind.i64 (0), V.i IntKind.i64 (0), V.s [], V.sl true []]⟩ := by kernel_rfl
theorem zo47 : bp_ En.P 47 = V.ag [V.i IntKind.i64 (0), V.i IntKind.i64 (0), V.s [], V.sl true []] := by kernel_rfl
theorem ty48 : bz_ En.P 48 = some ⟨TK.st [(0, 1, false), (1, 1, false), (2, 1, false), (3, 1, false)], 4, V.ag [V.i IntKind.i64 (0), V.i IntKind.i64 (0), V.s [], V.sl true []]⟩ := by kernel_rfl
theorem zo48 : bp_ En.P 48 = V.ag [V.i IntKind.i64 (0), V.i IntKind.i64 (0), V.s [], V.sl true []] := by kernel_rfl
theorem ty49 : bz_ En.P 49 = some ⟨TK.st [(0, 1, false), (1, 1, false), (2, 4, true), (6, 4, true)], 10, V.ag [V.i IntKind.i64 (0), V.s [], V.i IntKind.i64 (0), V.i IntKind.i64 (0), V.s [], V.sl true [], V.i IntKind.i64 (0), V.i IntKind.i64 (0), V.s [], V.sl true []]⟩ := by kernel_rfl
theorem zo49 : bp_ En.P 49 = V.ag [V.i IntKind.i64 (0), V.s [], V.i IntKind.i64 (0), V.i IntKind.i64 (0), V.s [], V.sl true [], V.i IntKind.i64 (0), V.i IntKind.i64 (0), V.s [], V.sl true []] := by kernel_rfl
theorem ty50 : bz_ En.P 50 = some ⟨TK.st [(0, 1, false), (1, 1, false), (2, 4, true), (6, 4, true)], 10, V.ag [V.i IntKind.i64 (0), V.s [], V.i IntKind.i64 (0), V.i IntKind.i64 (0), V.s [], V.sl true [], V.i IntKind.i64 (0), V.i IntKind.i64 (0), V.s [], V.sl true []]⟩ := by kernel_rfl
theorem zo50 : bp_ En.P 50 = V.ag [V.i IntKind.i64 (0), V.s [], V.i IntKind.i64 (0), V.i IntKind.i64 (0), V.s [], V.sl true [], V.i IntKind.i64 (0), V.i IntKind.i64 (0), V.s [], V.sl true []] := by kernel_rfl
theorem ty56 : bz_ En.P 56 = some ⟨TK.sl 99 4 64 [V.s [], V.b false, V.s [], V.sl true []], 1, V.sl true []⟩ := by kernel_rfl
theorem zo56 : bp_ En.P 56 = V.sl true [] := by kernel_rfl
theorem ty60 : bz_ En.P 60 = some ⟨TK.sl 105 4 64 [V.s [], V.b false, V.s [], V.sl true []], 1, V.sl true []⟩ := by kernel_rfl
theorem zo60 : bp_ En.P 60 = V.sl true [] := by kernel_rfl
theorem ty69 : bz_ En.P 69 = some ⟨TK.other, 1, V.np⟩ := by kernel_rfl
theorem zo69 : bp_ En.P 69 = V.np := by kernel_rfl
theorem ty71 : bz_ En.P 71 = some ⟨TK.st [(0, 1, false), (1, 1, false), (2, 1, false), (3, 4, true), (7, 4, true)], 11, V.ag [V.i IntKind.i64 (0), V.s [], V.s [], V.i IntKind.i64 (0), V.i IntKind.i64 (0), V.s [], V.sl true [], V.i IntKind.i64 (0), V.i IntKind.i64 (0), V.s [], V.sl true []]⟩ := by kernel_rfl
theorem zo71 : bp_ En.P 71 = V.ag [V.i IntKind.i64 (0), V.s [], V.s [], V.i IntKind.i64 (0), V.i IntKind.i64 (0), V.s [], V.sl true [], V.i IntKind.i64 (0), V.i IntKind.i64 (0), V.s [], V.sl true []] := by kernel_rfl
theorem ty72 : bz_ En.P 72 = some ⟨TK.st [(0, 1, false), (1, 1, false), (2, 1, false), (3, 4, true), (7, 4, true)], 11, V.ag [V.i IntKind.i64 (0), V.s [], V.s [], V.i IntKind.i64 (0), V.i IntKind.i64 (0), V.s [], V.sl true [], V.i IntKind.i64 (0), V.i IntKind.i64 (0), V.s [], V.sl true []]⟩ := by kernel_rfl
theorem zo72 : bp_ En.P 72 = V.ag [V.i IntKind.i64 (0), V.s [], V.s [], V.i IntKind.i64 (0), V.i IntKind.i64 (0), V.s [], V.sl true [], V.i IntKind.i64 (0), V.i IntKind.i64 (0), V.s [], V.sl true []] := by kernel_rfl
theorem ty73 : bz_ En.P 73 = some ⟨TK.sl 3 1 8 [V.i IntKind.i64 (0)], 1, V.sl true []⟩ := by kernel_rfl
theorem zo73 : bp_ En.P 73 = V.sl true [] := by kernel_rfl
theorem ty98 : bz_ En.P 98 = some ⟨TK.st [(0, 1, false), (1, 1, false), (2, 1, false), (3, 1, false)], 4, V.ag [V.s [], V.b false, V.s [], V.sl true []]⟩ := by kernel_rfl
theorem zo98 : bp_ En.P 98 = V.ag [V.s [], V.b false, V.s [], V.sl true []] := by kernel_rfl
theorem ty99 : bz_ En.P 99 = some ⟨TK.st [(0, 1, false), (1, 1, false), (2, 1, false), (3, 1, false)], 4, V.ag [V.s [], V.b false, V.s [], V.sl true []]⟩ := by kernel_rfl
theorem zo99 : bp_ En.P 99 = V.ag [V.s [], V.b false, V.s [], V.sl true []] := by kernel_rfl
theorem agv_ : bz_ En.P 105 = some ⟨TK.st [(0, 1, false), (1, 1, false), (2, 1, false), (3, 1, false)], 4, V.ag [V.s [], V.b false, V.s [], V.sl true []]⟩ := by kernel_rfl
theorem agg_ : bp_ En.P 105 = V.ag [V.s [], V.b false, V.s [], V.sl true []] := by kernel_rfl
theorem afp_ : bz_ En.P 112 = some ⟨TK.st [(0, 1, false), (1, 1, false)], 2, V.ag [V.sl true [], V.i IntKind.i64 (0)]⟩ := by kernel_rfl
theorem aft_ : bp_ En.P 112 = V.ag [V.sl true [], V.i IntKind.i64 (0)] := by kernel_rfl
theorem ahj_ : bz_ En.P 113 = some ⟨TK.st [(0, 1, false), (1, 1, false)], 2, V.ag [V.sl true [], V.i IntKind.i64 (0)]⟩ := by kernel_rfl
theorem afx_ : bp_ En.P 113 = V.ag [V.sl true [], V.i IntKind.i64 (0)] := by kernel_rfl
theorem agn_ : bz_ En.P 117 = some ⟨TK.sl 121 2 24 [V.s [], V.i IntKind.i64 (0)], 1, V.sl true []⟩ := by kernel_rfl
theorem af7_ : bp_ En.P 117 = V.sl true [] := by kernel_rfl
theorem agr_ : bz_ En.P 120 = some ⟨TK.st [(0, 1, false), (1, 1, false)], 2, V.ag [V.s [], V.i IntKind.i64 (0)]⟩ := by kernel_rfl
theorem afz_ : bp_ En.P 120 = V.ag [V.s [], V.i IntKind.i64 (0)] := by kernel_rfl
theorem ahe_ : bz_ En.P 121 = some ⟨TK.st [(0, 1, false), (1, 1, false)], 2, V.ag [V.s [], V.i IntKind.i64 (0)]⟩ := by kernel_rfl
theorem af9_ : bp_ En.P 121 = V.ag [V.s [], V.i IntKind.i64 (0)] := by kernel_rfl
theorem agy_ : bz_ En.P 154 = some ⟨TK.other, 1, V.np⟩ := by kernel_rfl
theorem agc_ : bp_ En.P 154 = V.np := by kernel_rfl
theorem agj_ : bz_ En.P 157 = some ⟨TK.sl 161 2 24 [V.s [], V.i IntKind.i64 (0)], 1, V.sl true []⟩ := by kernel_rfl
theorem afr_ : bp_ En.P 157 = V.sl true [] := by kernel_rfl
theorem afw_ : bz_ En.P 160 = some ⟨TK.st [(0, 1, false), (1, 1, false)], 2, V.ag [V.s [], V.i IntKind.i64 (0)]⟩ := by kernel_rfl
theorem agb_ : bp_ En.P 160 = V.ag [V.s [], V.i IntKind.i64 (0)] := by kernel_rfl
theorem ahl_ : bz_ En.P 161 = some ⟨TK.st [(0, 1, false), (1, 1, false)], 2, V.ag [V.s [], V.i IntKind.i64 (0)]⟩ := by kernel_rfl
theorem afv_ : bp_ En.P 161 = V.ag [V.s [], V.i IntKind.i64 (0)] := by kernel_rfl
theorem aha_ : bz_ En.P 165 = some ⟨TK.other, 1, V.np⟩ := by kernel_rfl
theorem agu_ : bp_ En.P 165 = V.np := by kernel_rfl
theorem agh_ : bz_ En.P 166 = some ⟨TK.st [(0, 1, false), (1, 1, false)], 2, V.ag [V.np, V.sl true []]⟩ := by kernel_rfl
theorem agl_ : bp_ En.P 166 = V.ag [V.np, V.sl true []] := by kernel_rfl
theorem af6_ : bz_ En.P 167 = some ⟨TK.st [(0, 1, false), (1, 1, false)], 2, V.ag [V.np, V.sl true []]⟩ := by kernel_rfl
theorem ahv_ : bp_ En.P 167 = V.ag [V.np, V.sl true []] := by kernel_rfl
theorem agk_ : bz_ En.P 182 = some ⟨TK.other, 1, V.np⟩ := by kernel_rfl
theorem ahd_ : bp_ En.P 182 = V.np := by kernel_rfl
theorem af3_ : bz_ En.P 183 = some ⟨TK.st [(0, 1, false), (1, 1, false), (2, 1, false)], 3, V.ag [V.sl true [], V.b false, V.i IntKind.i64 (0)]⟩ := by kernel_rfl
theorem afy_ : bp_ En.P 183 = V.ag [V.sl true [], V.b false, V.i IntKind.i64 (0)] := by kernel_rfl
theorem agx_ : bz_ En.P 184 = some ⟨TK.st [(0, 1, false), (1, 1, false), (2, 1, false)], 3, V.ag [V.sl true [], V.b false, V.i IntKind.i64 (0)]⟩ := by kernel_rfl
theorem aht_ : bp_ En.P 184 = V.ag [V.sl true [], V.b false, V.i IntKind.i64 (0)] := by kernel_rfl
theorem ahp_ : bz_ En.P 194 = some ⟨TK.sl 56 1 24 [V.sl true []], 1, V.sl true []⟩ := by kernel_rfl
theorem age_ : bp_ En.P 194 = V.sl true [] := by kernel_rfl
theorem af5_ : bz_ En.P 205 = some ⟨TK.other, 1, V.np⟩ := by kernel_rfl
theorem ag3_ : bp_ En.P 205 = V.np := by kernel_rfl
theorem agm_ : bz_ En.P 211 = some ⟨TK.int IntKind.u64, 1, V.i IntKind.u64 (0)⟩ := by kernel_rfl
theorem ahq_ : bp_ En.P 211 = V.i IntKind.u64 (0) := by kernel_rfl
theorem afu_ : bz_ En.P 212 = some ⟨TK.other, 1, V.np⟩ := by kernel_rfl
theorem af2_ : bp_ En.P 212 = V.np := by kernel_rfl
theorem ahu_ : bz_ En.P 220 = some ⟨TK.st [(0, 1, false), (1, 1, false)], 2, V.ag [V.i IntKind.u8 (0), V.i IntKind.u8 (0)]⟩ := by kernel_rfl
theorem aga_ : bp_ En.P 220 = V.ag [V.i IntKind.u8 (0), V.i IntKind.u8 (0)] := by kernel_rfl
theorem ag0_ : bz_ En.P 221 = some ⟨TK.st [(0, 1, false), (1, 1, false)], 2, V.ag [V.i IntKind.u8 (0), V.i IntKind.u8 (0)]⟩ := by kernel_rfl
theorem ag7_ : bp_ En.P 221 = V.ag [V.i IntKind.u8 (0), V.i IntKind.u8 (0)] := by kernel_rfl
theorem af8_ : bz_ En.P 223 = some ⟨TK.int IntKind.u32, 1, V.i IntKind.u32 (0)⟩ := by kernel_rfl
theorem ago_ : bp_ En.P 223 = V.i IntKind.u32 (0) := by kernel_rfl
theorem af4_ : bz_ En.P 226 = some ⟨TK.int IntKind.i64, 1, V.i IntKind.i64 (0)⟩ := by kernel_rfl
theorem ahg_ : bp_ En.P 226 = V.i IntKind.i64 (0) := by kernel_rfl
theorem ahb_ : bz_ En.P 229 = some ⟨TK.other, 1, V.np⟩ := by kernel_rfl
theorem aho_ : bp_ En.P 229 = V.np := by kernel_rfl
end
section
mutual
def eC : E → List V
 | .mk k n s kids => [.i .i64 k, .i .i64 n, .s s, .sl false (eR kids)]
def eR : List E → List (List V)
 | [] => []
 | e :: r => eC e :: eR r
end
theorem a6_ (e : E) : eC e = [.i .i64 e.kind, .i .i64 e.n, .s e.s, .sl false (eR e.kids)] := by cases e; simp only [eC, E.kind, E.n, E.s, E.kids]
theorem lg_ : ∀ l : List E, eR l = l.map eC
 | [] => by simp only [eR, List.map_nil]
 | e :: r => by simp only [eR, List.map_cons, lg_ r]
theorem lv_ (l : List E) : (eR l).length = l.length := by rw [lg_, List.length_map]
theorem ee_ {l : List E} {k : Nat} (h : k < l.length) : (eR l).getD k [] = eC (l.getD k E0) := by
 rw [lg_]; simp [T8_, T6_ h]
mutual
theorem acp_ : ∀ e : E, dp_ (eC e) = true
 | .mk k n s kids => by simp only [eC, dp_, V.pure, h5_ kids, Bool.and_self]
theorem h5_ : ∀ l : List E, cr_ (eR l) = true
 | [] => by simp only [eR, cr_]
 | e :: r => by simp only [eR, cr_, acp_ e, h5_ r, Bool.and_self]
end
def byR (b : Str) : List (List V) := b.map fun c => [.i .u8 c.toNat]
theorem ab3_ (b : Str) : (byR b).length = b.length := by simp [byR]
theorem s8_ : ∀ b : Str, cr_ (byR b) = true
 | [] => rfl
 | c :: b => by simp only [byR, List.map_cons, cr_, dp_, V.pure, Bool.true_and]; exact s8_ b
theorem byR_get {b : Str} {k : Nat} (h : k < b.length) : (byR b).getD k [] = [.i .u8 (b.getD k 0).toNat] := by
 simp [byR, T8_, T6_ h]
theorem zr_ (b : Str) (k : Nat) : (byR b).take k = byR (b.take k) := by simp [byR, List.map_take]
theorem ags_ (a b c : Nat) (d : List V) : (∃ el z y zc, some (TK.sl a b c d) = some (TK.sl el z y zc)) = True := eq_true ⟨a, b, c, d, rfl⟩
end
section
attribute [go_sem] lxs zz_ gE gO evO obO aa8_ xy_ St.pv St.ev peel d6_ pcB Op.operands Call.operands V.ofConst V.ofConst1 nm ad0_ adz_ pl_ zo_ ad6_ idxV idxC maxV minV km_ gn_ qu_ so_ TK.agg adw_ qt_ sy_ ux_ r3_ vn_ pw_ vo_ q9_ qo_ aunV aunC lt_ ldV ldC cy_ stV okC stC zy_ yt_ yw_ ixaC l6_ h8_ fm_ isC me_ extV extC xr_ lenC w3_ slcC bndC ioV mc_ zv_ ul_ mkE V.one V.cells isB g6_ fq_ ww_ bo_ ep_ t5_ wrL kf_ d8_ f7_ rnB rn rns rnr bj_ cu_ ad9_ ef_ afj_ aek_ afq_ agi_ ag9_ wk_ lo_ vb_ nilO nilV pq_ wy_ aar_ List.head?_cons List.head?_nil j4_ oc_ rn_ lend les leV ler g4_ eh_ bu_ bsO bsE cvO cvV ge_ frz gz_ j6_ frzB k9_ ao_ ax_ dp_ cr_ V.pure cls clr V.cl lw_ V.flat us List.getD_cons_zero List.getD_cons_succ List.getD_nil List.set_cons_zero List.set_cons_succ List.set_nil List.getElem?_cons_zero List.getElem?_cons_succ List.getElem?_nil Option.map_some Option.map_none Option.bind_some Option.bind_none Option.getD_some Option.getD_none Option.isSome_some Option.isNone_none Option.isNone_some Option.toArray_some Option.toArray_none List.toList_toArray List.map_cons List.map_nil List.append_nil List.nil_append List.cons_append List.all_cons List.all_nil List.all_append List.isEmpty_nil List.isEmpty_cons List.reverse_cons List.reverse_nil List.drop_zero List.drop_succ_cons List.drop_nil List.take_zero List.take_succ_cons List.take_nil T7_ List.length_nil List.zip_cons_cons List.zip_nil_left List.zip_nil_right List.flatMap_cons List.flatMap_nil List.replicate_succ List.replicate_zero Array.toList_append List.getElem?_toArray Array.getD_eq_getD_getElem? Bool.true_and Bool.and_true Bool.false_and Bool.and_false Bool.not_true Bool.not_false Bool.and_self beq_self_eq_true and_true true_and and_self cond_true cond_false if_true if_false ite_true ite_false decide_true decide_false Bool.decide_eq_true true_implies implies_true imp_self Nat.zero_add Nat.le_refl Nat.add_zero Nat.zero_mul Int.toNat_zero List.contains_nil List.contains_cons Bool.or_false Bool.or_true Bool.false_or Bool.true_or T9_ Ta_ eq_self List.append_toArray Bool.false_eq_true Array.size_empty List.push_toArray List.size_toArray Array.toList_map Array.toList_empty Bool.cond_false_right Bool.cond_true_left beq_true beq_false Int.toNat_natCast ab_ aa_ ja_ c8_ gx_ k8_ a6_ lv_ h5_ aew_ ab3_ s8_ zr_ ags_ ifO maxO xz_ wh_ yj_ x9_ ae4_ abw_ ael_ ty2 zo2 ty3 zo3 ty4 zo4 ty5 zo5 ty6 zo6 ty7 zo7 ty8 zo8 ty9 zo9 ty10 zo10 ty11 zo11 ty12 zo12 ty13 zo13 ty14 zo14 ty15 zo15 ty16 zo16 ty17 zo17 ty18 zo18 ty19 zo19 ty21 zo21 ty22 zo22 ty23 zo23 ty25 zo25 ty28 zo28 ty32 zo32 ty35 zo35 ty36 zo36 ty37 zo37 ty38 zo38 ty39 zo39 ty40 zo40 ty43 zo43 ty46 zo46 ty47 zo47 ty48 zo48 ty49 zo49 ty50 zo50 ty56 zo56 ty60 zo60 ty69 zo69 ty71 zo71 ty72 zo72 ty73 zo73 ty98 zo98 ty99 zo99 agv_ agg_ afp_ aft_ ahj_ afx_ agn_ af7_ agr_ afz_ ahe_ af9_ agy_ agc_ agj_ afr_ afw_ agb_ ahl_ afv_ aha_ agu_ agh_ agl_ af6_ ahv_ agk_ ahd_ af3_ afy_ agx_ aht_ ahp_ age_ af5_ ag3_ agm_ ahq_ afu_ af2_ ahu_ aga_ ag0_ ag7_ af8_ ago_ af4_ ahg_ ahb_ aho_
end
end Go.Proofs.YtefmbmafdgedmaaGreatDoor
