/- The program as an environment of the tree logic: what its package variables hold. Conditions: none. -/
import Derived.Test.YtpikbndepapbhabGreatDoorKb
import Derived.Test.YtpikbndepapbhabGreatDoorProg
import Derived.Test.YtpikbndepapbhabGreatDoorKc
import Derived.Lib.LaidTab
set_option linter.unusedVariables false
set_option linter.unusedSimpArgs false
namespace Go.Proofs.YtpikbndepapbhabGreatDoor
section
open Go.RowKit
def ownW : List Str := [[108, 101, 116], [115, 97, 121], [119, 104, 101, 110], [97, 115], [112, 114, 105, 110, 116], [105, 102], [105, 110, 116], [98, 111, 111, 108]]
def bn_ (l : List Str) : List (List V) := l.map fun s => [.s s]
theorem am_ (l : List Str) : (bn_ l).length = l.length := by simp [bn_]
theorem fi_ {l : List Str} {k : Nat} (h : k < l.length) : (bn_ l).getD k [] = [.s (l.getD k [])] := by
 simp [bn_, T8_, T6_ h]
theorem ag_ : ∀ l : List Str, br_ (bn_ l) = true
 | [] => rfl
 | s :: l => by simp only [bn_, List.map_cons, br_, b3_, V.pure, Bool.true_and]; exact ag_ l
structure Gl (B : Nat) (w : World) : Prop where
 tab : Lib.TabIs Tryz.prog w "internal/strconv.uint64pow10" .u64 Lib.pow10Tab
 syn : ∃ tp p, w.var? Tryz.prog "strconv.ErrSyntax" = some #[.iface tp p]
 rng : ∃ tp p, w.var? Tryz.prog "strconv.ErrRange" = some #[.iface tp p]
 maxl : ∃ m : Int, w.cell? ⟨1, 0, none⟩ = some (.int .i64 m)
 many : 6 < B ∧ 4 < B ∧ 5 < B ∧ 1 < B
theorem gi_ {P : Program} {B g : Nat} {W W' : World} {n : String} {cs : Array Value} (h : ∀ g, g < B → W'.heap[g]? = W.heap[g]?) (hg : P.globalNamed n = some g) (hgB : g < B) (hv : W.var? P n = some cs) : W'.var? P n = some cs := by
 unfold World.var? at hv ⊢
 simp only [hg, Option.bind_some] at hv ⊢
 rw [h g hgB]
 exact hv
theorem gTab : Tryz.prog.globalNamed "internal/strconv.uint64pow10" = some 6 := by kernel_rfl
theorem vr_ : Tryz.prog.globalNamed "strconv.ErrSyntax" = some 4 := by kernel_rfl
theorem u5_ : Tryz.prog.globalNamed "strconv.ErrRange" = some 5 := by kernel_rfl
theorem Gl.same {B : Nat} {w w' : World} (h : Gl B w) (hb : ∀ g, g < B → w'.heap[g]? = w.heap[g]?) : Gl B w' := by
 obtain ⟨m1, m2, m3, m4⟩ := h.many
 obtain ⟨m, hm⟩ := h.maxl
 obtain ⟨t1, p1, s1⟩ := h.syn
 obtain ⟨t2, p2, s2⟩ := h.rng
 exact ⟨gi_ hb gTab m1 h.tab, ⟨t1, p1, gi_ hb vr_ m2 s1⟩, ⟨t2, p2, gi_ hb u5_ m3 s2⟩, ⟨m, by unfold World.cell? at hm ⊢; rw [hb _ m4]; exact hm⟩, h.many⟩
noncomputable def En : Env := ⟨Tryz.prog, fun g => if g = 0 then some [.sl false (bn_ ownW)] else none, Gl, fun _ _ _ h hb => h.same hb⟩
theorem vy_ : En.G 0 = some [.sl false (bn_ ownW)] := rfl
theorem enM : En.P.follows .mixedOrders = true := by kernel_rfl
end
section
theorem ty2 : bb_ En.P 2 = some ⟨TK.int IntKind.i64, 1, V.i IntKind.i64 (0)⟩ := by kernel_rfl
theorem zo2 : a6_ En.P 2 = V.i IntKind.i64 (0) := by kernel_rfl
theorem ty3 : bb_ En.P 3 = some ⟨TK.int IntKind.i64, 1, V.i IntKind.i64 (0)⟩ := by kernel_rfl
theorem zo3 : a6_ En.P 3 = V.i IntKind.i64 (0) := by kernel_rfl
theorem ty4 : bb_ En.P 4 = some ⟨TK.bool, 1, V.b false⟩ := by kernel_rfl
theorem zo4 : a6_ En.P 4 = V.b false := by kernel_rfl
theorem ty5 : bb_ En.P 5 = some ⟨TK.int IntKind.u8, 1, V.i IntKind.u8 (0)⟩ := by kernel_rfl
theorem zo5 : a6_ En.P 5 = V.i IntKind.u8 (0) := by kernel_rfl
theorem ty6 : bb_ En.P 6 = some ⟨TK.int IntKind.u8, 1, V.i IntKind.u8 (0)⟩ := by kernel_rfl
theorem zo6 : a6_ En.P 6 = V.i IntKind.u8 (0) := by kernel_rfl
theorem ty7 : bb_ En.P 7 = some ⟨TK.st [(0, 1, false), (1, 1, false), (2, 1, false), (3, 1, false)], 4, V.ag [V.i IntKind.i64 (0), V.i IntKind.i64 (0), V.b false, V.i IntKind.u8 (0)]⟩ := by kernel_rfl
theorem zo7 : a6_ En.P 7 = V.ag [V.i IntKind.i64 (0), V.i IntKind.i64 (0), V.b false, V.i IntKind.u8 (0)] := by kernel_rfl
theorem ty8 : bb_ En.P 8 = some ⟨TK.st [(0, 1, false), (1, 1, false), (2, 1, false), (3, 1, false)], 4, V.ag [V.i IntKind.i64 (0), V.i IntKind.i64 (0), V.b false, V.i IntKind.u8 (0)]⟩ := by kernel_rfl
theorem zo8 : a6_ En.P 8 = V.ag [V.i IntKind.i64 (0), V.i IntKind.i64 (0), V.b false, V.i IntKind.u8 (0)] := by kernel_rfl
theorem ty9 : bb_ En.P 9 = some ⟨TK.str, 1, V.s []⟩ := by kernel_rfl
theorem zo9 : a6_ En.P 9 = V.s [] := by kernel_rfl
theorem x9_ : bb_ En.P 10 = some ⟨TK.str, 1, V.s []⟩ := by kernel_rfl
theorem yx_ : a6_ En.P 10 = V.s [] := by kernel_rfl
theorem yp_ : bb_ En.P 11 = some ⟨TK.str, 1, V.s []⟩ := by kernel_rfl
theorem zq_ : a6_ En.P 11 = V.s [] := by kernel_rfl
theorem yb_ : bb_ En.P 12 = some ⟨TK.int IntKind.u64, 1, V.i IntKind.u64 (0)⟩ := by kernel_rfl
theorem yf_ : a6_ En.P 12 = V.i IntKind.u64 (0) := by kernel_rfl
theorem zv_ : bb_ En.P 13 = some ⟨TK.st [(0, 1, false), (1, 1, false)], 2, V.ag [V.s [], V.i IntKind.u64 (0)]⟩ := by kernel_rfl
theorem yi_ : a6_ En.P 13 = V.ag [V.s [], V.i IntKind.u64 (0)] := by kernel_rfl
theorem ys_ : bb_ En.P 14 = some ⟨TK.st [(0, 1, false), (1, 1, false)], 2, V.ag [V.s [], V.i IntKind.u64 (0)]⟩ := by kernel_rfl
theorem zy_ : a6_ En.P 14 = V.ag [V.s [], V.i IntKind.u64 (0)] := by kernel_rfl
theorem zj_ : bb_ En.P 15 = some ⟨TK.other, 1, V.np⟩ := by kernel_rfl
theorem ze_ : a6_ En.P 15 = V.np := by kernel_rfl
theorem yk_ : bb_ En.P 16 = some ⟨TK.other, 1, V.np⟩ := by kernel_rfl
theorem y1_ : a6_ En.P 16 = V.np := by kernel_rfl
theorem y8_ : bb_ En.P 17 = some ⟨TK.other, 1, V.np⟩ := by kernel_rfl
theorem ye_ : a6_ En.P 17 = V.np := by kernel_rfl
theorem yu_ : bb_ En.P 18 = some ⟨TK.st [(0, 1, false)], 1, V.ag [V.np]⟩ := by kernel_rfl
theorem zu_ : a6_ En.P 18 = V.ag [V.np] := by kernel_rfl
theorem y6_ : bb_ En.P 19 = some ⟨TK.st [(0, 1, false)], 1, V.ag [V.np]⟩ := by kernel_rfl
theorem yc_ : a6_ En.P 19 = V.ag [V.np] := by kernel_rfl
theorem yt_ : bb_ En.P 21 = some ⟨TK.int IntKind.i32, 1, V.i IntKind.i32 (0)⟩ := by kernel_rfl
theorem y2_ : a6_ En.P 21 = V.i IntKind.i32 (0) := by kernel_rfl
theorem y0_ : bb_ En.P 22 = some ⟨TK.sl 5 1 1 [V.i IntKind.u8 (0)], 1, V.sl true []⟩ := by kernel_rfl
theorem yg_ : a6_ En.P 22 = V.sl true [] := by kernel_rfl
theorem yn_ : bb_ En.P 23 = some ⟨TK.sl 35 10 136 [V.i IntKind.i64 (0), V.s [], V.i IntKind.i64 (0), V.i IntKind.i64 (0), V.s [], V.sl true [], V.i IntKind.i64 (0), V.i IntKind.i64 (0), V.s [], V.sl true []], 1, V.sl true []⟩ := by kernel_rfl
theorem zt_ : a6_ En.P 23 = V.sl true [] := by kernel_rfl
theorem x8_ : bb_ En.P 25 = some ⟨TK.sl 3 1 8 [V.i IntKind.i64 (0)], 1, V.sl true []⟩ := by kernel_rfl
theorem zo_ : a6_ En.P 25 = V.sl true [] := by kernel_rfl
theorem yl_ : bb_ En.P 31 = some ⟨TK.sl 33 4 56 [V.i IntKind.i64 (0), V.i IntKind.i64 (0), V.s [], V.sl true []], 1, V.sl true []⟩ := by kernel_rfl
theorem yj_ : a6_ En.P 31 = V.sl true [] := by kernel_rfl
theorem y9_ : bb_ En.P 32 = some ⟨TK.st [(0, 1, false), (1, 1, false), (2, 1, false), (3, 1, false)], 4, V.ag [V.i IntKind.i64 (0), V.i IntKind.i64 (0), V.s [], V.sl true []]⟩ := by kernel_rfl
theorem yd_ : a6_ En.P 32 = V.ag [V.i IntKind.i64 (0), V.i IntKind.i64 (0), V.s [], V.sl true []] := by kernel_rfl
theorem y5_ : bb_ En.P 33 = some ⟨TK.st [(0, 1, false), (1, 1, false), (2, 1, false), (3, 1, false)], 4, V.ag [V.i IntKind.i64 (0), V.i IntKind.i64 (0), V.s [], V.sl true []]⟩ := by kernel_rfl
theorem za_ : a6_ En.P 33 = V.ag [V.i IntKind.i64 (0), V.i IntKind.i64 (0), V.s [], V.sl true []] := by kernel_rfl
theorem zk_ : bb_ En.P 34 = some ⟨TK.st [(0, 1, false), (1, 1, false), (2, 4, true), (6, 4, true)], 10, V.ag [V.i IntKind.i64 (0), V.s [], V.i IntKind.i64 (0), V.i IntKind.i64 (0), V.s [], V.sl true [], V.i IntKind.i64 (0), V.i IntKind.i64 (0), V.s [], V.sl true []]⟩ := by kernel_rfl
theorem yh_ : a6_ En.P 34 = V.ag [V.i IntKind.i64 (0), V.s [], V.i IntKind.i64 (0), V.i IntKind.i64 (0), V.s [], V.sl true [], V.i IntKind.i64 (0), V.i IntKind.i64 (0), V.s [], V.sl true []] := by kernel_rfl
theorem zx_ : bb_ En.P 35 = some ⟨TK.st [(0, 1, false), (1, 1, false), (2, 4, true), (6, 4, true)], 10, V.ag [V.i IntKind.i64 (0), V.s [], V.i IntKind.i64 (0), V.i IntKind.i64 (0), V.s [], V.sl true [], V.i IntKind.i64 (0), V.i IntKind.i64 (0), V.s [], V.sl true []]⟩ := by kernel_rfl
theorem yq_ : a6_ En.P 35 = V.ag [V.i IntKind.i64 (0), V.s [], V.i IntKind.i64 (0), V.i IntKind.i64 (0), V.s [], V.sl true [], V.i IntKind.i64 (0), V.i IntKind.i64 (0), V.s [], V.sl true []] := by kernel_rfl
theorem ya_ : bb_ En.P 47 = some ⟨TK.st [(0, 1, false), (1, 1, false), (2, 1, false), (3, 1, false)], 4, V.ag [V.s [], V.b false, V.s [], V.sl true []]⟩ := by kernel_rfl
theorem zp_ : a6_ En.P 47 = V.ag [V.s [], V.b false, V.s [], V.sl true []] := by kernel_rfl
theorem zb_ : bb_ En.P 48 = some ⟨TK.st [(0, 1, false), (1, 1, false), (2, 1, false), (3, 1, false)], 4, V.ag [V.s [], V.b false, V.s [], V.sl true []]⟩ := by kernel_rfl
theorem zn_ : a6_ En.P 48 = V.ag [V.s [], V.b false, V.s [], V.sl true []] := by kernel_rfl
theorem y4_ : bb_ En.P 53 = some ⟨TK.sl 48 4 64 [V.s [], V.b false, V.s [], V.sl true []], 1, V.sl true []⟩ := by kernel_rfl
theorem ym_ : a6_ En.P 53 = V.sl true [] := by kernel_rfl
theorem zl_ : bb_ En.P 54 = some ⟨TK.st [(0, 1, false), (1, 1, false), (2, 1, false), (3, 4, true), (7, 4, true)], 11, V.ag [V.i IntKind.i64 (0), V.s [], V.s [], V.i IntKind.i64 (0), V.i IntKind.i64 (0), V.s [], V.sl true [], V.i IntKind.i64 (0), V.i IntKind.i64 (0), V.s [], V.sl true []]⟩ := by kernel_rfl
theorem zs_ : a6_ En.P 54 = V.ag [V.i IntKind.i64 (0), V.s [], V.s [], V.i IntKind.i64 (0), V.i IntKind.i64 (0), V.s [], V.sl true [], V.i IntKind.i64 (0), V.i IntKind.i64 (0), V.s [], V.sl true []] := by kernel_rfl
theorem y7_ : bb_ En.P 55 = some ⟨TK.st [(0, 1, false), (1, 1, false), (2, 1, false), (3, 4, true), (7, 4, true)], 11, V.ag [V.i IntKind.i64 (0), V.s [], V.s [], V.i IntKind.i64 (0), V.i IntKind.i64 (0), V.s [], V.sl true [], V.i IntKind.i64 (0), V.i IntKind.i64 (0), V.s [], V.sl true []]⟩ := by kernel_rfl
theorem zc_ : a6_ En.P 55 = V.ag [V.i IntKind.i64 (0), V.s [], V.s [], V.i IntKind.i64 (0), V.i IntKind.i64 (0), V.s [], V.sl true [], V.i IntKind.i64 (0), V.i IntKind.i64 (0), V.s [], V.sl true []] := by kernel_rfl
theorem yv_ : bb_ En.P 62 = some ⟨TK.sl 100 4 64 [V.s [], V.b false, V.s [], V.sl true []], 1, V.sl true []⟩ := by kernel_rfl
theorem yy_ : a6_ En.P 62 = V.sl true [] := by kernel_rfl
theorem zm_ : bb_ En.P 68 = some ⟨TK.other, 1, V.np⟩ := by kernel_rfl
theorem zf_ : a6_ En.P 68 = V.np := by kernel_rfl
theorem zg_ : bb_ En.P 70 = some ⟨TK.sl 55 11 152 [V.i IntKind.i64 (0), V.s [], V.s [], V.i IntKind.i64 (0), V.i IntKind.i64 (0), V.s [], V.sl true [], V.i IntKind.i64 (0), V.i IntKind.i64 (0), V.s [], V.sl true []], 1, V.sl true []⟩ := by kernel_rfl
theorem yw_ : a6_ En.P 70 = V.sl true [] := by kernel_rfl
theorem zh_ : bb_ En.P 76 = some ⟨TK.sl 9 1 16 [V.s []], 1, V.sl true []⟩ := by kernel_rfl
theorem yz_ : a6_ En.P 76 = V.sl true [] := by kernel_rfl
theorem wn_ : bb_ En.P 100 = some ⟨TK.st [(0, 1, false), (1, 1, false), (2, 1, false), (3, 1, false)], 4, V.ag [V.s [], V.b false, V.s [], V.sl true []]⟩ := by kernel_rfl
theorem x7_ : a6_ En.P 100 = V.ag [V.s [], V.b false, V.s [], V.sl true []] := by kernel_rfl
theorem w4_ : bb_ En.P 106 = some ⟨TK.st [(0, 1, false), (1, 1, false)], 2, V.ag [V.sl true [], V.i IntKind.i64 (0)]⟩ := by kernel_rfl
theorem xw_ : a6_ En.P 106 = V.ag [V.sl true [], V.i IntKind.i64 (0)] := by kernel_rfl
theorem xm_ : bb_ En.P 107 = some ⟨TK.st [(0, 1, false), (1, 1, false)], 2, V.ag [V.sl true [], V.i IntKind.i64 (0)]⟩ := by kernel_rfl
theorem v6_ : a6_ En.P 107 = V.ag [V.sl true [], V.i IntKind.i64 (0)] := by kernel_rfl
theorem wj_ : bb_ En.P 119 = some ⟨TK.sl 146 2 24 [V.s [], V.i IntKind.i64 (0)], 1, V.sl true []⟩ := by kernel_rfl
theorem x1_ : a6_ En.P 119 = V.sl true [] := by kernel_rfl
theorem wg_ : bb_ En.P 121 = some ⟨TK.sl 125 3 32 [V.i IntKind.i64 (0), V.s [], V.i IntKind.i64 (0)], 1, V.sl true []⟩ := by kernel_rfl
theorem x5_ : a6_ En.P 121 = V.sl true [] := by kernel_rfl
theorem ww_ : bb_ En.P 124 = some ⟨TK.st [(0, 1, false), (1, 1, false), (2, 1, false)], 3, V.ag [V.i IntKind.i64 (0), V.s [], V.i IntKind.i64 (0)]⟩ := by kernel_rfl
theorem xb_ : a6_ En.P 124 = V.ag [V.i IntKind.i64 (0), V.s [], V.i IntKind.i64 (0)] := by kernel_rfl
theorem x4_ : bb_ En.P 125 = some ⟨TK.st [(0, 1, false), (1, 1, false), (2, 1, false)], 3, V.ag [V.i IntKind.i64 (0), V.s [], V.i IntKind.i64 (0)]⟩ := by kernel_rfl
theorem wv_ : a6_ En.P 125 = V.ag [V.i IntKind.i64 (0), V.s [], V.i IntKind.i64 (0)] := by kernel_rfl
theorem xs_ : bb_ En.P 137 = some ⟨TK.sl 141 2 24 [V.s [], V.i IntKind.i64 (0)], 1, V.sl true []⟩ := by kernel_rfl
theorem xc_ : a6_ En.P 137 = V.sl true [] := by kernel_rfl
theorem xn_ : bb_ En.P 140 = some ⟨TK.st [(0, 1, false), (1, 1, false)], 2, V.ag [V.s [], V.i IntKind.i64 (0)]⟩ := by kernel_rfl
theorem xe_ : a6_ En.P 140 = V.ag [V.s [], V.i IntKind.i64 (0)] := by kernel_rfl
theorem xp_ : bb_ En.P 141 = some ⟨TK.st [(0, 1, false), (1, 1, false)], 2, V.ag [V.s [], V.i IntKind.i64 (0)]⟩ := by kernel_rfl
theorem xt_ : a6_ En.P 141 = V.ag [V.s [], V.i IntKind.i64 (0)] := by kernel_rfl
theorem wz_ : bb_ En.P 145 = some ⟨TK.st [(0, 1, false), (1, 1, false)], 2, V.ag [V.s [], V.i IntKind.i64 (0)]⟩ := by kernel_rfl
theorem xq_ : a6_ En.P 145 = V.ag [V.s [], V.i IntKind.i64 (0)] := by kernel_rfl
theorem xv_ : bb_ En.P 146 = some ⟨TK.st [(0, 1, false), (1, 1, false)], 2, V.ag [V.s [], V.i IntKind.i64 (0)]⟩ := by kernel_rfl
theorem xr_ : a6_ En.P 146 = V.ag [V.s [], V.i IntKind.i64 (0)] := by kernel_rfl
theorem w3_ : bb_ En.P 156 = some ⟨TK.other, 1, V.np⟩ := by kernel_rfl
theorem wc_ : a6_ En.P 156 = V.np := by kernel_rfl
theorem w8_ : bb_ En.P 161 = some ⟨TK.other, 1, V.np⟩ := by kernel_rfl
theorem xu_ : a6_ En.P 161 = V.np := by kernel_rfl
theorem xi_ : bb_ En.P 162 = some ⟨TK.st [(0, 1, false), (1, 1, false), (2, 1, false)], 3, V.ag [V.sl true [], V.b false, V.i IntKind.i64 (0)]⟩ := by kernel_rfl
theorem wa_ : a6_ En.P 162 = V.ag [V.sl true [], V.b false, V.i IntKind.i64 (0)] := by kernel_rfl
theorem xa_ : bb_ En.P 163 = some ⟨TK.st [(0, 1, false), (1, 1, false), (2, 1, false)], 3, V.ag [V.sl true [], V.b false, V.i IntKind.i64 (0)]⟩ := by kernel_rfl
theorem wx_ : a6_ En.P 163 = V.ag [V.sl true [], V.b false, V.i IntKind.i64 (0)] := by kernel_rfl
theorem wh_ : bb_ En.P 182 = some ⟨TK.other, 1, V.np⟩ := by kernel_rfl
theorem wi_ : a6_ En.P 182 = V.np := by kernel_rfl
theorem w0_ : bb_ En.P 183 = some ⟨TK.st [(0, 1, false), (1, 1, false)], 2, V.ag [V.np, V.sl true []]⟩ := by kernel_rfl
theorem wt_ : a6_ En.P 183 = V.ag [V.np, V.sl true []] := by kernel_rfl
theorem v4_ : bb_ En.P 184 = some ⟨TK.st [(0, 1, false), (1, 1, false)], 2, V.ag [V.np, V.sl true []]⟩ := by kernel_rfl
theorem wm_ : a6_ En.P 184 = V.ag [V.np, V.sl true []] := by kernel_rfl
theorem xo_ : bb_ En.P 197 = some ⟨TK.other, 1, V.np⟩ := by kernel_rfl
theorem xz_ : a6_ En.P 197 = V.np := by kernel_rfl
theorem wd_ : bb_ En.P 201 = some ⟨TK.int IntKind.u64, 1, V.i IntKind.u64 (0)⟩ := by kernel_rfl
theorem x2_ : a6_ En.P 201 = V.i IntKind.u64 (0) := by kernel_rfl
theorem we_ : bb_ En.P 202 = some ⟨TK.other, 1, V.np⟩ := by kernel_rfl
theorem v9_ : a6_ En.P 202 = V.np := by kernel_rfl
theorem xh_ : bb_ En.P 206 = some ⟨TK.int IntKind.i64, 1, V.i IntKind.i64 (0)⟩ := by kernel_rfl
theorem v7_ : a6_ En.P 206 = V.i IntKind.i64 (0) := by kernel_rfl
theorem wo_ : bb_ En.P 209 = some ⟨TK.other, 1, V.np⟩ := by kernel_rfl
theorem w7_ : a6_ En.P 209 = V.np := by kernel_rfl
theorem wk_ : bb_ En.P 212 = some ⟨TK.int IntKind.u32, 1, V.i IntKind.u32 (0)⟩ := by kernel_rfl
theorem wq_ : a6_ En.P 212 = V.i IntKind.u32 (0) := by kernel_rfl
theorem w6_ : bb_ En.P 216 = some ⟨TK.st [(0, 1, false), (1, 1, false)], 2, V.ag [V.i IntKind.u8 (0), V.i IntKind.u8 (0)]⟩ := by kernel_rfl
theorem wr_ : a6_ En.P 216 = V.ag [V.i IntKind.u8 (0), V.i IntKind.u8 (0)] := by kernel_rfl
theorem xg_ : bb_ En.P 217 = some ⟨TK.st [(0, 1, false), (1, 1, false)], 2, V.ag [V.i IntKind.u8 (0), V.i IntKind.u8 (0)]⟩ := by kernel_rfl
theorem x0_ : a6_ En.P 217 = V.ag [V.i IntKind.u8 (0), V.i IntKind.u8 (0)] := by kernel_rfl
theorem wf_ : bb_ En.P 220 = some ⟨TK.int IntKind.u64, 1, V.i IntKind.u64 (0)⟩ := by kernel_rfl
theorem xj_ : a6_ En.P 220 = V.i IntKind.u64 (0) := by kernel_rfl
end
section
mutual
def eC : E → List V
 | .mk k n s kids => [.i .i64 k, .i .i64 n, .s s, .sl false (eR kids)]
def eR : List E → List (List V)
 | [] => []
 | e :: r => eC e :: eR r
end
theorem cy_ (e : E) : eC e = [.i .i64 e.kind, .i .i64 e.n, .s e.s, .sl false (eR e.kids)] := by cases e; simp only [eC, E.kind, E.n, E.s, E.kids]
theorem f6_ : ∀ l : List E, eR l = l.map eC
 | [] => by simp only [eR, List.map_nil]
 | e :: r => by simp only [eR, List.map_cons, f6_ r]
theorem fe_ (l : List E) : (eR l).length = l.length := by rw [f6_, List.length_map]
theorem b4_ {l : List E} {k : Nat} (h : k < l.length) : (eR l).getD k [] = eC (l.getD k E0) := by
 rw [f6_]; simp [T8_, T6_ h]
mutual
theorem so_ : ∀ e : E, b3_ (eC e) = true
 | .mk k n s kids => by simp only [eC, b3_, V.pure, dy_ kids, Bool.and_self]
theorem dy_ : ∀ l : List E, br_ (eR l) = true
 | [] => by simp only [eR, br_]
 | e :: r => by simp only [eR, br_, so_ e, dy_ r, Bool.and_self]
end
def byR (b : Str) : List (List V) := b.map fun c => [.i .u8 c.toNat]
theorem s6_ (b : Str) : (byR b).length = b.length := by simp [byR]
theorem l3_ : ∀ b : Str, br_ (byR b) = true
 | [] => rfl
 | c :: b => by simp only [byR, List.map_cons, br_, b3_, V.pure, Bool.true_and]; exact l3_ b
theorem j0_ {b : Str} {k : Nat} (h : k < b.length) : (byR b).getD k [] = [.i .u8 (b.getD k 0).toNat] := by
 simp [byR, T8_, T6_ h]
theorem r1_ (b : Str) (k : Nat) : (byR b).take k = byR (b.take k) := by simp [byR, List.map_take]
theorem wp_ (a b c : Nat) (d : List V) : (∃ el z y zc, some (TK.sl a b c d) = some (TK.sl el z y zc)) = True := eq_true ⟨a, b, c, d, rfl⟩
end
section
attribute [go_sem] lxs p8_ gE gO evO obO p7_ qs_ St.pv St.ev peel ce_ pcB Op.operands Call.operands V.ofConst V.ofConst1 nm uv_ uw_ iv_ q5_ uq_ xd_ v1_ wb_ wu_ fs_ du_ jz_ lx_ TK.agg uy_ mx_ mb_ oo_ le_ oh_ jp_ ol_ kh_ kj_ sf_ te_ f9_ ldV ldC by_ stV okC stC sd_ rn_ rc_ uf_ gs_ en_ c9_ isC gy_ vq_ sq_ pa_ uj_ p0_ uk_ s9_ ioV h6_ q1_ ne_ mkE V.one V.cells isB ds_ cz_ py_ nf_ fr_ np_ wrL fz_ c0_ et_ rnB rn rns rnr a4_ bi_ k1_ eu_ vf_ vd_ xl_ w5_ x3_ ph_ gg_ n7_ u3_ x6_ gh_ pz_ r9_ List.head?_cons List.head?_nil hl_ hq_ md_ lend les leV ler f2_ cp_ bq_ bsO bsE cvO cvV dg_ frz de_ fy_ rk_ gf_ ak_ aq_ b3_ br_ V.pure cls clr V.cl gv_ V.flat us List.getD_cons_zero List.getD_cons_succ List.getD_nil List.set_cons_zero List.set_cons_succ List.set_nil List.getElem?_cons_zero List.getElem?_cons_succ List.getElem?_nil Option.map_some Option.map_none Option.bind_some Option.bind_none Option.getD_some Option.getD_none Option.isSome_some Option.isNone_none Option.isNone_some Option.toArray_some Option.toArray_none List.toList_toArray List.map_cons List.map_nil List.append_nil List.nil_append List.cons_append List.all_cons List.all_nil List.all_append List.isEmpty_nil List.isEmpty_cons List.reverse_cons List.reverse_nil List.drop_zero List.drop_succ_cons List.drop_nil List.take_zero List.take_succ_cons List.take_nil T7_ List.length_nil List.zip_cons_cons List.zip_nil_left List.zip_nil_right List.flatMap_cons List.flatMap_nil List.replicate_succ List.replicate_zero Array.toList_append List.getElem?_toArray Array.getD_eq_getD_getElem? Bool.true_and Bool.and_true Bool.false_and Bool.and_false Bool.not_true Bool.not_false Bool.and_self beq_self_eq_true and_true true_and and_self cond_true cond_false if_true if_false ite_true ite_false decide_true decide_false Bool.decide_eq_true true_implies implies_true imp_self Nat.zero_add Nat.le_refl Nat.add_zero Nat.zero_mul Int.toNat_zero List.contains_nil List.contains_cons Bool.or_false Bool.or_true Bool.false_or Bool.true_or T9_ Ta_ eq_self List.append_toArray Bool.false_eq_true Array.size_empty List.push_toArray List.size_toArray Array.toList_map Array.toList_empty Bool.cond_false_right Bool.cond_true_left beq_true beq_false Int.toNat_natCast am_ ag_ ez_ bv_ ih_ e0_ cy_ fe_ dy_ vy_ s6_ l3_ r1_ wp_ ifO zd_ rm_ o6_ r8_ rr_ vc_ s4_ vu_ ty2 zo2 ty3 zo3 ty4 zo4 ty5 zo5 ty6 zo6 ty7 zo7 ty8 zo8 ty9 zo9 x9_ yx_ yp_ zq_ yb_ yf_ zv_ yi_ ys_ zy_ zj_ ze_ yk_ y1_ y8_ ye_ yu_ zu_ y6_ yc_ yt_ y2_ y0_ yg_ yn_ zt_ x8_ zo_ yl_ yj_ y9_ yd_ y5_ za_ zk_ yh_ zx_ yq_ ya_ zp_ zb_ zn_ y4_ ym_ zl_ zs_ y7_ zc_ yv_ yy_ zm_ zf_ zg_ yw_ zh_ yz_ wn_ x7_ w4_ xw_ xm_ v6_ wj_ x1_ wg_ x5_ ww_ xb_ x4_ wv_ xs_ xc_ xn_ xe_ xp_ xt_ wz_ xq_ xv_ xr_ w3_ wc_ w8_ xu_ xi_ wa_ xa_ wx_ wh_ wi_ w0_ wt_ v4_ wm_ xo_ xz_ wd_ x2_ we_ v9_ xh_ v7_ wo_ w7_ wk_ wq_ w6_ wr_ xg_ x0_ wf_ xj_
end
end Go.Proofs.YtpikbndepapbhabGreatDoor
