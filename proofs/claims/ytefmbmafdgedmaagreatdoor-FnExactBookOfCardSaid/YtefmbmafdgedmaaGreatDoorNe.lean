/- The program as an environment of the tree logic: what its package variables hold. Conditions: none. -/
import Derived.Test.YtefmbmafdgedmaaGreatDoorNb
import Derived.Test.YtefmbmafdgedmaaGreatDoorProg
import Derived.Test.YtefmbmafdgedmaaGreatDoorNc
import Derived.Lib.LaidTab
set_option linter.unusedVariables false
set_option linter.unusedSimpArgs false
namespace Go.Proofs.YtefmbmafdgedmaaGreatDoor
section
open Go.RowKit
def ownW : List Str := [[108, 101, 116], [115, 97, 121], [119, 104, 101, 110], [97, 115], [112, 114, 105, 110, 116], [105, 102], [105, 110, 116], [98, 111, 111, 108]]
def bm_ (l : List Str) : List (List V) := l.map fun s => [.s s]
theorem ab_ (l : List Str) : (bm_ l).length = l.length := by simp [bm_]
theorem co_ {l : List Str} {k : Nat} (h : k < l.length) : (bm_ l).getD k [] = [.s (l.getD k [])] := by
 simp [bm_, List.getD_eq_getElem?_getD, List.getElem?_eq_getElem h]
theorem aa_ : ∀ l : List Str, cf_ (bm_ l) = true
 | [] => rfl
 | s :: l => by simp only [bm_, List.map_cons, cf_, cv_, V.pure, Bool.true_and]; exact aa_ l
structure Gl (B : Nat) (w : World) : Prop where
 tab : Lib.TabIs Tryz.prog w "internal/strconv.uint64pow10" .u64 Lib.pow10Tab
 syn : ∃ tp p, w.var? Tryz.prog "strconv.ErrSyntax" = some #[.iface tp p]
 rng : ∃ tp p, w.var? Tryz.prog "strconv.ErrRange" = some #[.iface tp p]
 maxl : ∃ m : Int, w.cell? ⟨1, 0, none⟩ = some (.int .i64 m)
 many : 6 < B ∧ 4 < B ∧ 5 < B ∧ 1 < B
theorem lu_ {P : Program} {B g : Nat} {W W' : World} {n : String} {cs : Array Value} (h : ∀ g, g < B → W'.heap[g]? = W.heap[g]?) (hg : P.globalNamed n = some g) (hgB : g < B) (hv : W.var? P n = some cs) : W'.var? P n = some cs := by
 unfold World.var? at hv ⊢
 simp only [hg, Option.bind_some] at hv ⊢
 rw [h g hgB]
 exact hv
theorem gTab : Tryz.prog.globalNamed "internal/strconv.uint64pow10" = some 6 := by kernel_rfl
theorem gSyn : Tryz.prog.globalNamed "strconv.ErrSyntax" = some 4 := by kernel_rfl
theorem gRng : Tryz.prog.globalNamed "strconv.ErrRange" = some 5 := by kernel_rfl
theorem Gl.same {B : Nat} {w w' : World} (h : Gl B w) (hb : ∀ g, g < B → w'.heap[g]? = w.heap[g]?) : Gl B w' := by
 obtain ⟨m1, m2, m3, m4⟩ := h.many
 obtain ⟨m, hm⟩ := h.maxl
 obtain ⟨t1, p1, s1⟩ := h.syn
 obtain ⟨t2, p2, s2⟩ := h.rng
 exact ⟨lu_ hb gTab m1 h.tab, ⟨t1, p1, lu_ hb gSyn m2 s1⟩, ⟨t2, p2, lu_ hb gRng m3 s2⟩, ⟨m, by unfold World.cell? at hm ⊢; rw [hb _ m4]; exact hm⟩, h.many⟩
noncomputable def En : Env := ⟨Tryz.prog, fun g => if g = 0 then some [.sl false (bm_ ownW)] else none, Gl, fun _ _ _ h hb => h.same hb⟩
theorem ahs_ : En.G 0 = some [.sl false (bm_ ownW)] := rfl
theorem enM : En.P.follows .mixedOrders = true := by kernel_rfl
end
section
theorem ty2 : bu_ En.P 2 = some ⟨TK.int IntKind.i64, 1, V.i IntKind.i64 (0)⟩ := by kernel_rfl
theorem zo2 : bi_ En.P 2 = V.i IntKind.i64 (0) := by kernel_rfl
theorem ty3 : bu_ En.P 3 = some ⟨TK.int IntKind.i64, 1, V.i IntKind.i64 (0)⟩ := by kernel_rfl
theorem zo3 : bi_ En.P 3 = V.i IntKind.i64 (0) := by kernel_rfl
theorem ty4 : bu_ En.P 4 = some ⟨TK.bool, 1, V.b false⟩ := by kernel_rfl
theorem zo4 : bi_ En.P 4 = V.b false := by kernel_rfl
theorem ty5 : bu_ En.P 5 = some ⟨TK.int IntKind.u8, 1, V.i IntKind.u8 (0)⟩ := by kernel_rfl
theorem zo5 : bi_ En.P 5 = V.i IntKind.u8 (0) := by kernel_rfl
theorem ty6 : bu_ En.P 6 = some ⟨TK.int IntKind.u8, 1, V.i IntKind.u8 (0)⟩ := by kernel_rfl
theorem zo6 : bi_ En.P 6 = V.i IntKind.u8 (0) := by kernel_rfl
theorem ty7 : bu_ En.P 7 = some ⟨TK.st [(0, 1, false), (1, 1, false), (2, 1, false), (3, 1, false)], 4, V.ag [V.i IntKind.i64 (0), V.i IntKind.i64 (0), V.b false, V.i IntKind.u8 (0)]⟩ := by kernel_rfl
theorem zo7 : bi_ En.P 7 = V.ag [V.i IntKind.i64 (0), V.i IntKind.i64 (0), V.b false, V.i IntKind.u8 (0)] := by kernel_rfl
theorem ty8 : bu_ En.P 8 = some ⟨TK.st [(0, 1, false), (1, 1, false), (2, 1, false), (3, 1, false)], 4, V.ag [V.i IntKind.i64 (0), V.i IntKind.i64 (0), V.b false, V.i IntKind.u8 (0)]⟩ := by kernel_rfl
theorem zo8 : bi_ En.P 8 = V.ag [V.i IntKind.i64 (0), V.i IntKind.i64 (0), V.b false, V.i IntKind.u8 (0)] := by kernel_rfl
theorem ty9 : bu_ En.P 9 = some ⟨TK.str, 1, V.s []⟩ := by kernel_rfl
theorem zo9 : bi_ En.P 9 = V.s [] := by kernel_rfl
theorem ty10 : bu_ En.P 10 = some ⟨TK.str, 1, V.s []⟩ := by kernel_rfl
theorem zo10 : bi_ En.P 10 = V.s [] := by kernel_rfl
theorem ty11 : bu_ En.P 11 = some ⟨TK.str, 1, V.s []⟩ := by kernel_rfl
theorem zo11 : bi_ En.P 11 = V.s [] := by kernel_rfl
theorem ty12 : bu_ En.P 12 = some ⟨TK.int IntKind.u64, 1, V.i IntKind.u64 (0)⟩ := by kernel_rfl
theorem zo12 : bi_ En.P 12 = V.i IntKind.u64 (0) := by kernel_rfl
theorem ty13 : bu_ En.P 13 = some ⟨TK.st [(0, 1, false), (1, 1, false)], 2, V.ag [V.s [], V.i IntKind.u64 (0)]⟩ := by kernel_rfl
theorem zo13 : bi_ En.P 13 = V.ag [V.s [], V.i IntKind.u64 (0)] := by kernel_rfl
theorem ty14 : bu_ En.P 14 = some ⟨TK.st [(0, 1, false), (1, 1, false)], 2, V.ag [V.s [], V.i IntKind.u64 (0)]⟩ := by kernel_rfl
theorem zo14 : bi_ En.P 14 = V.ag [V.s [], V.i IntKind.u64 (0)] := by kernel_rfl
theorem ty15 : bu_ En.P 15 = some ⟨TK.other, 1, V.np⟩ := by kernel_rfl
theorem zo15 : bi_ En.P 15 = V.np := by kernel_rfl
theorem ty16 : bu_ En.P 16 = some ⟨TK.other, 1, V.np⟩ := by kernel_rfl
theorem zo16 : bi_ En.P 16 = V.np := by kernel_rfl
theorem ty17 : bu_ En.P 17 = some ⟨TK.other, 1, V.np⟩ := by kernel_rfl
theorem zo17 : bi_ En.P 17 = V.np := by kernel_rfl
theorem ty18 : bu_ En.P 18 = some ⟨TK.st [(0, 1, false)], 1, V.ag [V.np]⟩ := by kernel_rfl
theorem zo18 : bi_ En.P 18 = V.ag [V.np] := by kernel_rfl
theorem ty19 : bu_ En.P 19 = some ⟨TK.st [(0, 1, false)], 1, V.ag [V.np]⟩ := by kernel_rfl
theorem zo19 : bi_ En.P 19 = V.ag [V.np] := by kernel_rfl
theorem ty21 : bu_ En.P 21 = some ⟨TK.int IntKind.i32, 1, V.i IntKind.i32 (0)⟩ := by kernel_rfl
theorem zo21 : bi_ En.P 21 = V.i IntKind.i32 (0) := by kernel_rfl
theorem ty22 : bu_ En.P 22 = some ⟨TK.sl 5 1 1 [V.i IntKind.u8 (0)], 1, V.sl true []⟩ := by kernel_rfl
theorem zo22 : bi_ En.P 22 = V.sl true [] := by kernel_rfl
theorem ty23 : bu_ En.P 23 = some ⟨TK.sl 72 11 152 [V.i IntKind.i64 (0), V.s [], V.s [], V.i IntKind.i64 (0), V.i IntKind.i64 (0), V.s [], V.sl true [], V.i IntKind.i64 (0), V.i IntKind.i64 (0), V.s [], V.sl true []], 1, V.sl true []⟩ := by kernel_rfl
theorem zo23 : bi_ En.P 23 = V.sl true [] := by kernel_rfl
theorem ty25 : bu_ En.P 25 = some ⟨TK.sl 38 4 32 [V.i IntKind.i64 (0), V.i IntKind.i64 (0), V.i IntKind.i64 (0), V.i IntKind.i64 (0)], 1, V.sl true []⟩ := by kernel_rfl
theorem zo25 : bi_ En.P 25 = V.sl true [] := by kernel_rfl
theorem ty28 : bu_ En.P 28 = some ⟨TK.sl 9 1 16 [V.s []], 1, V.sl true []⟩ := by kernel_rfl
theorem zo28 : bi_ En.P 28 = V.sl true [] := by kernel_rfl
theorem ty32 : bu_ En.P 32 = some ⟨TK.sl 40 3 32 [V.i IntKind.i64 (0), V.s [], V.i IntKind.i64 (0)], 1, V.sl true []⟩ := by kernel_rfl
theorem zo32 : bi_ En.P 32 = V.sl true [] := by kernel_rfl
theorem ty35 : bu_ En.P 35 = some ⟨TK.st [(0, 1, false), (1, 1, false)], 2, V.ag [V.i IntKind.i64 (0), V.i IntKind.i64 (0)]⟩ := by kernel_rfl
theorem zo35 : bi_ En.P 35 = V.ag [V.i IntKind.i64 (0), V.i IntKind.i64 (0)] := by kernel_rfl
theorem ty36 : bu_ En.P 36 = some ⟨TK.st [(0, 1, false), (1, 1, false)], 2, V.ag [V.i IntKind.i64 (0), V.i IntKind.i64 (0)]⟩ := by kernel_rfl
theorem zo36 : bi_ En.P 36 = V.ag [V.i IntKind.i64 (0), V.i IntKind.i64 (0)] := by kernel_rfl
theorem ty37 : bu_ En.P 37 = some ⟨TK.st [(0, 2, true), (2, 2, true)], 4, V.ag [V.i IntKind.i64 (0), V.i IntKind.i64 (0), V.i IntKind.i64 (0), V.i IntKind.i64 (0)]⟩ := by kernel_rfl
theorem zo37 : bi_ En.P 37 = V.ag [V.i IntKind.i64 (0), V.i IntKind.i64 (0), V.i IntKind.i64 (0), V.i IntKind.i64 (0)] := by kernel_rfl
theorem ty38 : bu_ En.P 38 = some ⟨TK.st [(0, 2, true), (2, 2, true)], 4, V.ag [V.i IntKind.i64 (0), V.i IntKind.i64 (0), V.i IntKind.i64 (0), V.i IntKind.i64 (0)]⟩ := by kernel_rfl
theorem zo38 : bi_ En.P 38 = V.ag [V.i IntKind.i64 (0), V.i IntKind.i64 (0), V.i IntKind.i64 (0), V.i IntKind.i64 (0)] := by kernel_rfl
theorem ty39 : bu_ En.P 39 = some ⟨TK.st [(0, 1, false), (1, 1, false), (2, 1, false)], 3, V.ag [V.i IntKind.i64 (0), V.s [], V.i IntKind.i64 (0)]⟩ := by kernel_rfl
theorem zo39 : bi_ En.P 39 = V.ag [V.i IntKind.i64 (0), V.s [], V.i IntKind.i64 (0)] := by kernel_rfl
theorem ty40 : bu_ En.P 40 = some ⟨TK.st [(0, 1, false), (1, 1, false), (2, 1, false)], 3, V.ag [V.i IntKind.i64 (0), V.s [], V.i IntKind.i64 (0)]⟩ := by kernel_rfl
theorem zo40 : bi_ En.P 40 = V.ag [V.i IntKind.i64 (0), V.s [], V.i IntKind.i64 (0)] := by kernel_rfl
theorem ty43 : bu_ En.P 43 = some ⟨TK.sl 36 2 16 [V.i IntKind.i64 (0), V.i IntKind.i64 (0)], 1, V.sl true []⟩ := by kernel_rfl
theorem zo43 : bi_ En.P 43 = V.sl true [] := by kernel_rfl
theorem ty46 : bu_ En.P 46 = some ⟨TK.sl 48 4 56 [V.i IntKind.i64 (0), V.i IntKind.i64 (0), V.s [], V.sl true []], 1, V.sl true []⟩ := by kernel_rfl
theorem zo46 : bi_ En.P 46 = V.sl true [] := by kernel_rfl
theorem ty47 : bu_ En.P 47 = some ⟨TK.st [(0, 1, false), (1, 1, false), (2, 1, false), (3, 1, false)], 4, V.ag [V.i IntKind.i64 (0), V.i IntKind.i64 (0), V.s [], V.sl true []]⟩ := by kernel_rfl
theorem zo47 : bi_ En.P 47 = V.ag [V.i IntKind.i64 (0), V.i IntKind.i64 (0), V.s [], V.sl true []] := by kernel_rfl
theorem ty48 : bu_ En.P 48 = some ⟨TK.st [(0, 1, false), (1, 1, false), (2, 1, false), (3, 1, false)], 4, V.ag [V.i IntKind.i64 (0), V.i IntKind.i64 (0), V.s [], V.sl true []]⟩ := by kernel_rfl
theorem zo48 : bi_ En.P 48 = V.ag [V.i IntKind.i64 (0), V.i IntKind.i64 (0), V.s [], V.sl true []] := by kernel_rfl
theorem ty49 : bu_ En.P 49 = some ⟨TK.st [(0, 1, false), (1, 1, false), (2, 4, true), (6, 4, true)], 10, V.ag [V.i IntKind.i64 (0), V.s [], V.i IntKind.i64 (0), V.i IntKind.i64 (0), V.s [], V.sl true [], V.i IntKind.i64 (0), V.i IntKind.i64 (0), V.s [], V.sl true []]⟩ := by kernel_rfl
theorem zo49 : bi_ En.P 49 = V.ag [V.i IntKind.i64 (0), V.s [], V.i IntKind.i64 (0), V.i IntKind.i64 (0), V.s [], V.sl true [], V.i IntKind.i64 (0), V.i IntKind.i64 (0), V.s [], V.sl true []] := by kernel_rfl
theorem ty50 : bu_ En.P 50 = some ⟨TK.st [(0, 1, false), (1, 1, false), (2, 4, true), (6, 4, true)], 10, V.ag [V.i IntKind.i64 (0), V.s [], V.i IntKind.i64 (0), V.i IntKind.i64 (0), V.s [], V.sl true [], V.i IntKind.i64 (0), V.i IntKind.i64 (0), V.s [], V.sl true []]⟩ := by kernel_rfl
theorem zo50 : bi_ En.P 50 = V.ag [V.i IntKind.i64 (0), V.s [], V.i IntKind.i64 (0), V.i IntKind.i64 (0), V.s [], V.sl true [], V.i IntKind.i64 (0), V.i IntKind.i64 (0), V.s [], V.sl true []] := by kernel_rfl
theorem ty56 : bu_ En.P 56 = some ⟨TK.sl 99 4 64 [V.s [], V.b false, V.s [], V.sl true []], 1, V.sl true []⟩ := by kernel_rfl
theorem zo56 : bi_ En.P 56 = V.sl true [] := by kernel_rfl
theorem ty60 : bu_ En.P 60 = some ⟨TK.sl 105 4 64 [V.s [], V.b false, V.s [], V.sl true []], 1, V.sl true []⟩ := by kernel_rfl
theorem zo60 : bi_ En.P 60 = V.sl true [] := by kernel_rfl
theorem ty69 : bu_ En.P 69 = some ⟨TK.other, 1, V.np⟩ := by kernel_rfl
theorem zo69 : bi_ En.P 69 = V.np := by kernel_rfl
theorem ty71 : bu_ En.P 71 = some ⟨TK.st [(0, 1, false), (1, 1, false), (2, 1, false), (3, 4, true), (7, 4, true)], 11, V.ag [V.i IntKind.i64 (0), V.s [], V.s [], V.i IntKind.i64 (0), V.i IntKind.i64 (0), V.s [], V.sl true [], V.i IntKind.i64 (0), V.i IntKind.i64 (0), V.s [], V.sl true []]⟩ := by kernel_rfl
theorem zo71 : bi_ En.P 71 = V.ag [V.i IntKind.i64 (0), V.s [], V.s [], V.i IntKind.i64 (0), V.i IntKind.i64 (0), V.s [], V.sl true [], V.i IntKind.i64 (0), V.i IntKind.i64 (0), V.s [], V.sl true []] := by kernel_rfl
theorem ty72 : bu_ En.P 72 = some ⟨TK.st [(0, 1, false), (1, 1, false), (2, 1, false), (3, 4, true), (7, 4, true)], 11, V.ag [V.i IntKind.i64 (0), V.s [], V.s [], V.i IntKind.i64 (0), V.i IntKind.i64 (0), V.s [], V.sl true [], V.i IntKind.i64 (0), V.i IntKind.i64 (0), V.s [], V.sl true []]⟩ := by kernel_rfl
theorem zo72 : bi_ En.P 72 = V.ag [V.i IntKind.i64 (0), V.s [], V.s [], V.i IntKind.i64 (0), V.i IntKind.i64 (0), V.s [], V.sl true [], V.i IntKind.i64 (0), V.i IntKind.i64 (0), V.s [], V.sl true []] := by kernel_rfl
theorem ty73 : bu_ En.P 73 = some ⟨TK.sl 3 1 8 [V.i IntKind.i64 (0)], 1, V.sl true []⟩ := by kernel_rfl
theorem zo73 : bi_ En.P 73 = V.sl true [] := by kernel_rfl
theorem ty98 : bu_ En.P 98 = some ⟨TK.st [(0, 1, false), (1, 1, false), (2, 1, false), (3, 1, false)], 4, V.ag [V.s [], V.b false, V.s [], V.sl true []]⟩ := by kernel_rfl
theorem zo98 : bi_ En.P 98 = V.ag [V.s [], V.b false, V.s [], V.sl true []] := by kernel_rfl
theorem ty99 : bu_ En.P 99 = some ⟨TK.st [(0, 1, false), (1, 1, false), (2, 1, false), (3, 1, false)], 4, V.ag [V.s [], V.b false, V.s [], V.sl true []]⟩ := by kernel_rfl
theorem zo99 : bi_ En.P 99 = V.ag [V.s [], V.b false, V.s [], V.sl true []] := by kernel_rfl
theorem aiv_ : bu_ En.P 105 = some ⟨TK.st [(0, 1, false), (1, 1, false), (2, 1, false), (3, 1, false)], 4, V.ag [V.s [], V.b false, V.s [], V.sl true []]⟩ := by kernel_rfl
theorem ajq_ : bi_ En.P 105 = V.ag [V.s [], V.b false, V.s [], V.sl true []] := by kernel_rfl
theorem aii_ : bu_ En.P 112 = some ⟨TK.st [(0, 1, false), (1, 1, false)], 2, V.ag [V.sl true [], V.i IntKind.i64 (0)]⟩ := by kernel_rfl
theorem aid_ : bi_ En.P 112 = V.ag [V.sl true [], V.i IntKind.i64 (0)] := by kernel_rfl
theorem aji_ : bu_ En.P 113 = some ⟨TK.st [(0, 1, false), (1, 1, false)], 2, V.ag [V.sl true [], V.i IntKind.i64 (0)]⟩ := by kernel_rfl
theorem ajv_ : bi_ En.P 113 = V.ag [V.sl true [], V.i IntKind.i64 (0)] := by kernel_rfl
theorem ajd_ : bu_ En.P 117 = some ⟨TK.sl 121 2 24 [V.s [], V.i IntKind.i64 (0)], 1, V.sl true []⟩ := by kernel_rfl
theorem ajl_ : bi_ En.P 117 = V.sl true [] := by kernel_rfl
theorem aia_ : bu_ En.P 120 = some ⟨TK.st [(0, 1, false), (1, 1, false)], 2, V.ag [V.s [], V.i IntKind.i64 (0)]⟩ := by kernel_rfl
theorem ajk_ : bi_ En.P 120 = V.ag [V.s [], V.i IntKind.i64 (0)] := by kernel_rfl
theorem aj2_ : bu_ En.P 121 = some ⟨TK.st [(0, 1, false), (1, 1, false)], 2, V.ag [V.s [], V.i IntKind.i64 (0)]⟩ := by kernel_rfl
theorem ail_ : bi_ En.P 121 = V.ag [V.s [], V.i IntKind.i64 (0)] := by kernel_rfl
theorem ajy_ : bu_ En.P 154 = some ⟨TK.other, 1, V.np⟩ := by kernel_rfl
theorem ajn_ : bi_ En.P 154 = V.np := by kernel_rfl
theorem air_ : bu_ En.P 157 = some ⟨TK.sl 161 2 24 [V.s [], V.i IntKind.i64 (0)], 1, V.sl true []⟩ := by kernel_rfl
theorem ais_ : bi_ En.P 157 = V.sl true [] := by kernel_rfl
theorem ajw_ : bu_ En.P 160 = some ⟨TK.st [(0, 1, false), (1, 1, false)], 2, V.ag [V.s [], V.i IntKind.i64 (0)]⟩ := by kernel_rfl
theorem aj9_ : bi_ En.P 160 = V.ag [V.s [], V.i IntKind.i64 (0)] := by kernel_rfl
theorem ai8_ : bu_ En.P 161 = some ⟨TK.st [(0, 1, false), (1, 1, false)], 2, V.ag [V.s [], V.i IntKind.i64 (0)]⟩ := by kernel_rfl
theorem ait_ : bi_ En.P 161 = V.ag [V.s [], V.i IntKind.i64 (0)] := by kernel_rfl
theorem aic_ : bu_ En.P 165 = some ⟨TK.other, 1, V.np⟩ := by kernel_rfl
theorem aip_ : bi_ En.P 165 = V.np := by kernel_rfl
theorem ajc_ : bu_ En.P 166 = some ⟨TK.st [(0, 1, false), (1, 1, false)], 2, V.ag [V.np, V.sl true []]⟩ := by kernel_rfl
theorem aja_ : bi_ En.P 166 = V.ag [V.np, V.sl true []] := by kernel_rfl
theorem aij_ : bu_ En.P 167 = some ⟨TK.st [(0, 1, false), (1, 1, false)], 2, V.ag [V.np, V.sl true []]⟩ := by kernel_rfl
theorem aiz_ : bi_ En.P 167 = V.ag [V.np, V.sl true []] := by kernel_rfl
theorem ain_ : bu_ En.P 182 = some ⟨TK.other, 1, V.np⟩ := by kernel_rfl
theorem akd_ : bi_ En.P 182 = V.np := by kernel_rfl
theorem aik_ : bu_ En.P 183 = some ⟨TK.st [(0, 1, false), (1, 1, false), (2, 1, false)], 3, V.ag [V.sl true [], V.b false, V.i IntKind.i64 (0)]⟩ := by kernel_rfl
theorem aix_ : bi_ En.P 183 = V.ag [V.sl true [], V.b false, V.i IntKind.i64 (0)] := by kernel_rfl
theorem ajb_ : bu_ En.P 184 = some ⟨TK.st [(0, 1, false), (1, 1, false), (2, 1, false)], 3, V.ag [V.sl true [], V.b false, V.i IntKind.i64 (0)]⟩ := by kernel_rfl
theorem aif_ : bi_ En.P 184 = V.ag [V.sl true [], V.b false, V.i IntKind.i64 (0)] := by kernel_rfl
theorem akb_ : bu_ En.P 194 = some ⟨TK.sl 56 1 24 [V.sl true []], 1, V.sl true []⟩ := by kernel_rfl
theorem ajo_ : bi_ En.P 194 = V.sl true [] := by kernel_rfl
theorem aih_ : bu_ En.P 205 = some ⟨TK.other, 1, V.np⟩ := by kernel_rfl
theorem aiq_ : bi_ En.P 205 = V.np := by kernel_rfl
theorem ai2_ : bu_ En.P 211 = some ⟨TK.int IntKind.u64, 1, V.i IntKind.u64 (0)⟩ := by kernel_rfl
theorem aj0_ : bi_ En.P 211 = V.i IntKind.u64 (0) := by kernel_rfl
theorem ai7_ : bu_ En.P 212 = some ⟨TK.other, 1, V.np⟩ := by kernel_rfl
theorem ajt_ : bi_ En.P 212 = V.np := by kernel_rfl
theorem aig_ : bu_ En.P 220 = some ⟨TK.st [(0, 1, false), (1, 1, false)], 2, V.ag [V.i IntKind.u8 (0), V.i IntKind.u8 (0)]⟩ := by kernel_rfl
theorem ai6_ : bi_ En.P 220 = V.ag [V.i IntKind.u8 (0), V.i IntKind.u8 (0)] := by kernel_rfl
theorem aib_ : bu_ En.P 221 = some ⟨TK.st [(0, 1, false), (1, 1, false)], 2, V.ag [V.i IntKind.u8 (0), V.i IntKind.u8 (0)]⟩ := by kernel_rfl
theorem aj3_ : bi_ En.P 221 = V.ag [V.i IntKind.u8 (0), V.i IntKind.u8 (0)] := by kernel_rfl
theorem akc_ : bu_ En.P 223 = some ⟨TK.int IntKind.u32, 1, V.i IntKind.u32 (0)⟩ := by kernel_rfl
theorem ajp_ : bi_ En.P 223 = V.i IntKind.u32 (0) := by kernel_rfl
theorem aiu_ : bu_ En.P 226 = some ⟨TK.int IntKind.i64, 1, V.i IntKind.i64 (0)⟩ := by kernel_rfl
theorem aj6_ : bi_ En.P 226 = V.i IntKind.i64 (0) := by kernel_rfl
theorem ajh_ : bu_ En.P 229 = some ⟨TK.other, 1, V.np⟩ := by kernel_rfl
theorem aj8_ : bi_ En.P 229 = V.np := by kernel_rfl
end
section
mutual
def eC : E → List V
 | .mk k n s kids => [.i .i64 k, .i .i64 n, .s s, .sl false (eR kids)]
def eR : List E → List (List V)
 | [] => []
 | e :: r => eC e :: eR r
end
theorem a3_ (e : E) : eC e = [.i .i64 e.kind, .i .i64 e.n, .s e.s, .sl false (eR e.kids)] := by cases e; simp only [eC, E.kind, E.n, E.s, E.kids]
theorem l3_ : ∀ l : List E, eR l = l.map eC
 | [] => by simp only [eR, List.map_nil]
 | e :: r => by simp only [eR, List.map_cons, l3_ r]
theorem l5_ (l : List E) : (eR l).length = l.length := by rw [l3_, List.length_map]
theorem d7_ {l : List E} {k : Nat} (h : k < l.length) : (eR l).getD k [] = eC (l.getD k E0) := by
 rw [l3_]; simp [List.getD_eq_getElem?_getD, List.getElem?_eq_getElem h]
mutual
theorem af5_ : ∀ e : E, cv_ (eC e) = true
 | .mk k n s kids => by simp only [eC, cv_, V.pure, il_ kids, Bool.and_self]
theorem il_ : ∀ l : List E, cf_ (eR l) = true
 | [] => by simp only [eR, cf_]
 | e :: r => by simp only [eR, cf_, af5_ e, il_ r, Bool.and_self]
end
def byR (b : Str) : List (List V) := b.map fun c => [.i .u8 c.toNat]
theorem aer_ (b : Str) : (byR b).length = b.length := by simp [byR]
theorem t4_ : ∀ b : Str, cf_ (byR b) = true
 | [] => rfl
 | c :: b => by simp only [byR, List.map_cons, cf_, cv_, V.pure, Bool.true_and]; exact t4_ b
theorem byR_get {b : Str} {k : Nat} (h : k < b.length) : (byR b).getD k [] = [.i .u8 (b.getD k 0).toNat] := by
 simp [byR, List.getD_eq_getElem?_getD, List.getElem?_eq_getElem h]
theorem aa4_ (b : Str) (k : Nat) : (byR b).take k = byR (b.take k) := by simp [byR, List.map_take]
theorem ai5_ (a b c : Nat) (d : List V) : (∃ el z y zc, some (TK.sl a b c d) = some (TK.sl el z y zc)) = True := eq_true ⟨a, b, c, d, rfl⟩
end
section
attribute [go_sem] lxs z2_ gE gO evO obO aan_ zp_ St.pv St.ev peel d2_ pcB Op.operands Call.operands V.ofConst V.ofConst1 nm agc_ ags_ pv_ z1_ af8_ idxV idxC maxV minV ks_ g9_ rt_ u6_ TK.agg agb_ wj_ tg_ w9_ u5_ xi_ ql_ xf_ rs_ ro_ aunV aunC lo_ ldV ldC c0_ stV okC stC fldV fldC ixaV ixaC mw_ iq_ f3_ isC m0_ extV extC ze_ lenC yt_ slcC bndC ioV mx_ appC vf_ mkE V.one V.cells isB gy_ fq_ x3_ gz_ f4_ vm_ wrL kz_ ed_ g5_ rnB rn rns rnr a2_ cz_ agf_ c1_ abo_ aa2_ agt_ agd_ agi_ y1_ l0_ xs_ nilO nilV p5_ yg_ aai_ List.head?_cons List.head?_nil mt_ od_ tm_ lend les leV ler fk_ e2_ ba_ bsO bsE cvO cvV ga_ frz f7_ ky_ zv_ ma_ as_ ay_ cv_ cf_ V.pure cls clr V.cl mn_ V.flat us List.getD_cons_zero List.getD_cons_succ List.getD_nil List.set_cons_zero List.set_cons_succ List.set_nil List.getElem?_cons_zero List.getElem?_cons_succ List.getElem?_nil Option.map_some Option.map_none Option.bind_some Option.bind_none Option.getD_some Option.getD_none Option.isSome_some Option.isNone_none Option.isNone_some Option.toArray_some Option.toArray_none List.toList_toArray List.map_cons List.map_nil List.append_nil List.nil_append List.cons_append List.all_cons List.all_nil List.all_append List.isEmpty_nil List.isEmpty_cons List.reverse_cons List.reverse_nil List.drop_zero List.drop_succ_cons List.drop_nil List.take_zero List.take_succ_cons List.take_nil List.length_cons List.length_nil List.zip_cons_cons List.zip_nil_left List.zip_nil_right List.flatMap_cons List.flatMap_nil List.replicate_succ List.replicate_zero Array.toList_append List.getElem?_toArray Array.getD_eq_getD_getElem? Bool.true_and Bool.and_true Bool.false_and Bool.and_false Bool.not_true Bool.not_false Bool.and_self beq_self_eq_true and_true true_and and_self cond_true cond_false if_true if_false ite_true ite_false decide_true decide_false Bool.decide_eq_true true_implies implies_true imp_self Nat.zero_add Nat.le_refl Nat.add_zero Nat.zero_mul Int.toNat_zero List.contains_nil List.contains_cons Bool.or_false Bool.or_true Bool.false_or Bool.true_or true_or or_true eq_self List.append_toArray Bool.false_eq_true Array.size_empty List.push_toArray List.size_toArray Array.toList_map Array.toList_empty Bool.cond_false_right Bool.cond_true_left beq_true beq_false Int.toNat_natCast ab_ aa_ hq_ ci_ i7_ l8_ a3_ l5_ il_ ahs_ aer_ t4_ aa4_ ai5_ ifO maxO aa5_ ym_ adg_ zq_ ahb_ afu_ ah6_ ty2 zo2 ty3 zo3 ty4 zo4 ty5 zo5 ty6 zo6 ty7 zo7 ty8 zo8 ty9 zo9 ty10 zo10 ty11 zo11 ty12 zo12 ty13 zo13 ty14 zo14 ty15 zo15 ty16 zo16 ty17 zo17 ty18 zo18 ty19 zo19 ty21 zo21 ty22 zo22 ty23 zo23 ty25 zo25 ty28 zo28 ty32 zo32 ty35 zo35 ty36 zo36 ty37 zo37 ty38 zo38 ty39 zo39 ty40 zo40 ty43 zo43 ty46 zo46 ty47 zo47 ty48 zo48 ty49 zo49 ty50 zo50 ty56 zo56 ty60 zo60 ty69 zo69 ty71 zo71 ty72 zo72 ty73 zo73 ty98 zo98 ty99 zo99 aiv_ ajq_ aii_ aid_ aji_ ajv_ ajd_ ajl_ aia_ ajk_ aj2_ ail_ ajy_ ajn_ air_ ais_ ajw_ aj9_ ai8_ ait_ aic_ aip_ ajc_ aja_ aij_ aiz_ ain_ akd_ aik_ aix_ ajb_ aif_ akb_ ajo_ aih_ aiq_ ai2_ aj0_ ai7_ ajt_ aig_ ai6_ aib_ aj3_ akc_ ajp_ aiu_ aj6_ ajh_ aj8_
end
end Go.Proofs.YtefmbmafdgedmaaGreatDoor
