/- What is drawn: two lines without types, a line; the two languages are disjoint. Conditions: none. -/
import Derived.Test.YtpikbndepapbhabGreatDoorKu
import Derived.Test.YtpikbndepapbhabGreatDoorKl
set_option linter.unusedVariables false
set_option linter.unusedSimpArgs false
namespace Go.Proofs.YtpikbndepapbhabGreatDoor
section
set_option maxRecDepth 100000
set_option maxHeartbeats 4000000
def oddB (b : Str) : Bool := decide ((b.length : Int) > 0) && ((b.getD 0 0).toNat : Int).tmod 2 == 1
def dBS (b : Str) : Bl × Bl := ((d7 (b.take 2000) 0).1, if oddB b then { (d7 (b.take 2000) 0).1 with name := (d7 (b.take 2000) 0).1.name ++ [97] } else (d7 (b.take 2000) 0).1)
theorem ai0_ {b : Str} (h : (decide ((b.length : Int) > 0) && ((b.getD 0 0).toNat : Int).tmod 2 == 1) = true) : dBS b = ((d7 (b.take 2000) 0).1, { (d7 (b.take 2000) 0).1 with name := (d7 (b.take 2000) 0).1.name ++ [97] }) := by
 unfold dBS; rw [if_pos (show oddB b = true from h)]
theorem akg_ {b : Str} (h : (decide ((b.length : Int) > 0) && ((b.getD 0 0).toNat : Int).tmod 2 == 1) = false) : dBS b = ((d7 (b.take 2000) 0).1, (d7 (b.take 2000) 0).1) := by
 unfold dBS; rw [if_neg (show ¬ oddB b = true by rw [show oddB b = false from h]; simp)]
theorem aj1_ (b : Str) : (decide ((b.length : Int) > 0) = true → decide ((b.length : Int) > 0) = true ∧ (0 : Int) < b.length ∧ ((byR b).getD 0 []).length = 1) ∧ (decide ((b.length : Int) > 0) = true → (decide ((b.length : Int) > 0) = true ∧ 1 ≤ ((byR b).getD 0 []).length) ∧ ({ v := ((byR b).getD 0 []).getD 0 .no } : Eff) = { v := .i .u8 (b.getD 0 0).toNat }) := by
 cases b with
 | nil => simp
 | cons c r => simp [byR]
theorem aec_ (b : Str) {p : Int} (hp : 0 ≤ p) (hp2 : p < 100000000) : (b8_ b p).1.name.length ≤ 4 := by
 obtain ⟨h1, h2, _⟩ := kf_ b (p := p + 1) (by omega) (by omega)
 have l1 := e1_ (b := b) (p := (ch_ b (p + 1)).2) (l := [[120], [121], [122]]) (by decide) (by omega) (by omega) 4 (by decide)
 unfold b8_ d5
 split
 ·simp [S0]
 ·split
  ·exact l1
  ·split <;> simp
theorem xb_ (b : Str) {p : Int} (hp : 0 ≤ p) (hp2 : p < 100000000) : (d7 b p).1.name.length ≤ 5 := by
 obtain ⟨h1, h2, _⟩ := kg_ b hp hp2
 have l1 := e1_ (b := b) (p := (b8_ b p).2 + 1) (l := [[120], [112, 114, 105, 110, 116], [88], []]) (by decide) (by omega) (by omega) 5 (by decide)
 have l2 : (bof (b8_ b p).1).name.length ≤ 5 := by have := aec_ b hp hp2; unfold bof; dsimp only; omega
 unfold d7 hl_
 split
 ·exact l2
 ·split
  ·exact l1
  ·split
   ·exact l2
   ·split <;> exact l2
theorem ah4_ (b : Str) : smb (dBS b).1 = true ∧ smb (dBS b).2 = true := by
 have h := (ze_ (b.take 2000) (p := 0) (by decide) (by decide)).2.2
 have hn := xb_ (b.take 2000) (p := 0) (by decide) (by decide)
 obtain ⟨s1, s2, s3⟩ := ek_ h
 refine ⟨h, ?_⟩
 unfold dBS
 dsimp only
 split
 ·simp only [smb, s2, s3, Bool.and_true, T3_, T2_, List.length_singleton]; omega
 ·exact h
theorem nh_ (b : Str) : ACall En 27 [.sl false (byR b)] [] [.ag (bC (dBS b).1), .ag (bC (dBS b).2)] [] := by
 refine al_ (fn := Tryz.f27) [] Tryz.func27 rfl rfl (by simp) fun C => ?_
 rw [aw_]
 simp only [Tryz.ntmps27, T7_, List.length_nil, Nat.reduceAdd, Nat.reduceSub, List.replicate_succ, List.replicate_zero, List.cons_append, List.nil_append, bo_]
 refine .seq (.rgn [] (by simp only [go_sem, seval, asO, ah_, an_, ae_]; rfl) ?_ ?_)
 ·first | trivial | simp
 refine .seq (.rgn [bm_ [] [90] (eq_ b), bm_ [90] [] (hd_ (b.take 2000) 0 (by simp; omega) (by decide) (by decide))] (by simp only [go_sem, seval, asO, ah_, an_, ae_]; rfl) ?_ ?_)
 ·first | trivial | simp
 refine .seq (.rgn [bm_ [] [91] (eq_ b), bm_ [91] [] (hd_ (b.take 2000) 0 (by simp; omega) (by decide) (by decide))] (by simp only [go_sem, seval, asO, ah_, an_, ae_]; rfl) ?_ ?_)
 ·first | trivial | simp
 refine .seq (.seq (.rgnS [18] [asO En { v := .i .u8 (b.getD 0 0).toNat }] (by simp only [go_sem, seval, asO, ah_, an_, ae_]; rfl) ?_ ?_))
 ·exact aj1_ b
 refine .condB (by simp only [go_sem, seval, asO, ah_, an_, ae_]; rfl) (by simp only [go_sem, seval, asO, ah_, an_, ae_]) (fun h21 => ?_) (fun h21 => ?_)
 ·refine .rgn [] (by simp only [go_sem, seval, asO, ah_, an_, ae_]; rfl) ?_ ?_
  ·(have := xb_ (b.take 2000) (p := 0) (by decide) (by decide)); omega
  refine .seq (.rgnD [] enM (by simp only [go_sem, seval, asO, ah_, an_, ae_]; rfl) (by rfl) ?_ ?_)
  ·first | trivial | simp
  refine .ret ⟨.inr rfl, ?_⟩
  exact Out.plain (by simp only [Tryz.results27]; rfl) (by simp only [av_, a3_, go_sem, seval, asO, ah_, an_, ae_] <;> (split <;> rfl)) (by simp only [a2_, go_sem, seval, asO, ah_, an_, ae_] <;> (rw [ai0_ h21])) (by simp only [go_sem, seval, asO, ah_, an_, ae_])
 ·refine .skip (.seq (.rgnD [] enM (by simp only [go_sem, seval, asO, ah_, an_, ae_]; rfl) (by rfl) ?_ ?_))
  ·first | trivial | simp
  refine .ret ⟨.inr rfl, ?_⟩
  exact Out.plain (by simp only [Tryz.results27]; rfl) (by simp only [av_, a3_, go_sem, seval, asO, ah_, an_, ae_] <;> (split <;> rfl)) (by simp only [a2_, go_sem, seval, asO, ah_, an_, ae_] <;> (rw [akg_ h21])) (by simp only [go_sem, seval, asO, ah_, an_, ae_])
end
end Go.Proofs.YtpikbndepapbhabGreatDoor
