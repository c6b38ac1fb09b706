/- Parts of the proof, one after another: What is drawn: two lines without types, a line; the two languages are disjoint. Conditions: none. -/
import Derived.Test.YteihfmnmpdbkiaaGreatDoorKu
import Derived.Test.YteihfmnmpdbkiaaGreatDoorKl
set_option linter.unusedVariables false
set_option linter.unusedSimpArgs false
namespace Go.Proofs.YteihfmnmpdbkiaaGreatDoor
section
set_option maxRecDepth 100000
set_option maxHeartbeats 4000000

def oddB (b : Str) : Bool := decide ((b.length : Int) > 0) && ((b.getD 0 0).toNat : Int).tmod 2 == 1
def dBS (b : Str) : Bl × Bl := ((d7 (b.take 2000) 0).1, if oddB b then { (d7 (b.take 2000) 0).1 with name := (d7 (b.take 2000) 0).1.name ++ [97] } else (d7 (b.take 2000) 0).1)
theorem dBS_t {b : Str} (h : (decide ((b.length : Int) > 0) && ((b.getD 0 0).toNat : Int).tmod 2 == 1) = true) : dBS b = ((d7 (b.take 2000) 0).1, { (d7 (b.take 2000) 0).1 with name := (d7 (b.take 2000) 0).1.name ++ [97] }) := by
  unfold dBS; rw [if_pos (show oddB b = true from h)]
theorem dBS_f {b : Str} (h : (decide ((b.length : Int) > 0) && ((b.getD 0 0).toNat : Int).tmod 2 == 1) = false) : dBS b = ((d7 (b.take 2000) 0).1, (d7 (b.take 2000) 0).1) := by
  unfold dBS; rw [if_neg (show ¬ oddB b = true by rw [show oddB b = false from h]; simp)]
theorem hd_by (b : Str) : (decide ((b.length : Int) > 0) = true → decide ((b.length : Int) > 0) = true ∧ (0 : Int) < b.length ∧ ((byR b).getD 0 []).length = 1) ∧ (decide ((b.length : Int) > 0) = true → (decide ((b.length : Int) > 0) = true ∧ 1 ≤ ((byR b).getD 0 []).length) ∧ ({ v := ((byR b).getD 0 []).getD 0 .no } : Eff) = { v := .i .u8 (b.getD 0 0).toNat }) := by
  cases b with
  | nil => simp
  | cons c r => simp [byR]
theorem d5_name (b : Str) {p : Int} (hp : 0 ≤ p) (hp2 : p < 100000000) : (d5Some b p).1.name.length ≤ 4 := by
  obtain ⟨h1, h2, _⟩ := dSome_p b (p := p + 1) (by omega) (by omega)
  have l1 := of_len (b := b) (p := (dSome b (p + 1)).2) (l := [[120], [121], [122]]) (by decide) (by omega) (by omega) 4 (by decide)
  unfold d5Some d5
  split
  · simp [S0]
  · split
    · exact l1
    · split <;> simp
theorem d7_name (b : Str) {p : Int} (hp : 0 ≤ p) (hp2 : p < 100000000) : (d7 b p).1.name.length ≤ 5 := by
  obtain ⟨h1, h2, _⟩ := d5Some_p b hp hp2
  have l1 := of_len (b := b) (p := (d5Some b p).2 + 1) (l := [[120], [112, 114, 105, 110, 116], [88], []]) (by decide) (by omega) (by omega) 5 (by decide)
  have l2 : (bof (d5Some b p).1).name.length ≤ 5 := by have := d5_name b hp hp2; unfold bof; dsimp only; omega
  unfold d7 bentB
  split
  · exact l2
  · split
    · exact l1
    · split
      · exact l2
      · split <;> exact l2
theorem dBS_sm (b : Str) : smb (dBS b).1 = true ∧ smb (dBS b).2 = true := by
  have h := (d7_p (b.take 2000) (p := 0) (by decide) (by decide)).2.2
  have hn := d7_name (b.take 2000) (p := 0) (by decide) (by decide)
  obtain ⟨s1, s2, s3⟩ := smb_open h
  refine ⟨h, ?_⟩
  unfold dBS
  dsimp only
  split
  · simp only [smb, s2, s3, Bool.and_true, decide_eq_true_eq, List.length_append, List.length_singleton]; omega
  · exact h
theorem DrawBareSame_a (b : Str) : ACall En 48 [.sl false (byR b)] [] [.ag (bC (dBS b).1), .ag (bC (dBS b).2)] [] := by
  refine acall_of_body (fn := Tryz.f48) [] Tryz.func48 rfl rfl (by simp) fun C => ?_
  rw [entry_eq]
  simp only [Tryz.ntmps48, List.length_cons, List.length_nil, Nat.reduceAdd, Nat.reduceSub, List.replicate_succ, List.replicate_zero, List.cons_append, List.nil_append, numL]
  refine AWp.seq ?_
  refine AWp.rgn [] (by simp only [go_sem, seval, asO, memEq, clrs, bC_eq]; rfl) ?_ ?_
  · (first | trivial | (simp; done))
  refine AWp.seq ?_
  refine AWp.rgn [callN [] [90] (l12Open_a b), callN [90] [] (l7Bent_a (b.take 2000) 0 (by simp; omega) (by decide) (by decide))] (by simp only [go_sem, seval, asO, memEq, clrs, bC_eq]; rfl) ?_ ?_
  · (first | trivial | (simp; done))
  refine AWp.seq ?_
  refine AWp.rgn [callN [] [91] (l12Open_a b), callN [91] [] (l7Bent_a (b.take 2000) 0 (by simp; omega) (by decide) (by decide))] (by simp only [go_sem, seval, asO, memEq, clrs, bC_eq]; rfl) ?_ ?_
  · (first | trivial | (simp; done))
  refine AWp.seq ?_
  refine AWp.seq ?_
  refine AWp.rgnS [18] [asO En { v := .i .u8 (b.getD 0 0).toNat }] (by simp only [go_sem, seval, asO, memEq, clrs, bC_eq]; rfl) ?_ ?_
  · exact hd_by b
  refine AWp.condB (by simp only [go_sem, seval, asO, memEq, clrs, bC_eq]; rfl) (by simp only [go_sem, seval, asO, memEq, clrs, bC_eq]) (fun h21 => ?_) (fun h21 => ?_)
  · refine AWp.rgn [] (by simp only [go_sem, seval, asO, memEq, clrs, bC_eq]; rfl) ?_ ?_
    · (have := d7_name (b.take 2000) (p := 0) (by decide) (by decide)); omega
    refine AWp.seq ?_
    refine AWp.rgnD [] enM (by simp only [go_sem, seval, asO, memEq, clrs, bC_eq]; rfl) (by rfl) ?_ ?_
    · (first | trivial | (simp; done))
    refine AWp.ret (And.intro (.inr rfl) ?_)
    exact Out.plain (by simp only [Tryz.results48]; rfl) (by simp only [resCs, resC, go_sem, seval, asO, memEq, clrs, bC_eq] <;> (split <;> rfl)) (by simp only [resV, go_sem, seval, asO, memEq, clrs, bC_eq] <;> (rw [dBS_t h21])) (by simp only [go_sem, seval, asO, memEq, clrs, bC_eq])
  · refine AWp.skip ?_
    refine AWp.seq ?_
    refine AWp.rgnD [] enM (by simp only [go_sem, seval, asO, memEq, clrs, bC_eq]; rfl) (by rfl) ?_ ?_
    · (first | trivial | (simp; done))
    refine AWp.ret (And.intro (.inr rfl) ?_)
    exact Out.plain (by simp only [Tryz.results48]; rfl) (by simp only [resCs, resC, go_sem, seval, asO, memEq, clrs, bC_eq] <;> (split <;> rfl)) (by simp only [resV, go_sem, seval, asO, memEq, clrs, bC_eq] <;> (rw [dBS_f h21])) (by simp only [go_sem, seval, asO, memEq, clrs, bC_eq])
end
end Go.Proofs.YteihfmnmpdbkiaaGreatDoor
