/- Parts of the proof, one after another: What is drawn: two lines without types, a line; the two languages are disjoint. Conditions: none. -/
import Derived.Test.YthljacdbmhonfaaGreatDoorKu
import Derived.Test.YthljacdbmhonfaaGreatDoorKl
set_option linter.unusedVariables false
set_option linter.unusedSimpArgs false
section
namespace Go.Proofs.YthljacdbmhonfaaGreatDoor
set_option maxRecDepth 100000
set_option maxHeartbeats 4000000

theorem tkOf_inj {a b : List Str} (h : tkOf 0 a = tkOf 0 b) : a = b := by
  have := congrArg (List.map (·.s)) h
  rwa [tkOf_s, tkOf_s] at this
theorem words_apart {s : Sl} {b : Bl} (hs : sok s = true) (hb : bok b = true) (h : stext s = btext b) : sw' s = bw b :=
  tkOf_inj (Option.some.inj ((tok_stext hs).symm.trans (by rw [h]; exact tok_btext hb)))
theorem two_apart {s : Sl} {b : Bl} (hs : sok s = true) (hb : bok b = true) (h : sw' s = bw b) : sw' s = [] := by
  have h0 := sok_0 hs
  have h1 : bok0 b = true := by simp only [bok, Bool.and_eq_true] at hb; exact hb.1
  unfold sw' bw at h
  unfold sw'
  unfold sok0 at h0
  unfold bok0 at h1
  by_cases k0 : s.kind = 0
  · simp [k0]
  exfalso
  by_cases b1 : b.kind = 1
  · simp [b1] at h1
    obtain ⟨n1, n2, n3, n4, n5⟩ := nm_held h1.1.1
    by_cases k1 : s.kind = 1
    · simp [k1, b1] at h; exact n4 h.1.symm
    by_cases k2 : s.kind = 2
    · simp [k2, b1] at h; exact n3 h.1.symm
    by_cases k3 : s.kind = 3
    · simp [k3, b1] at h; exact n5 h.1.symm
    · simp [k0, k1, k2, k3] at h0
  by_cases b2 : b.kind = 2
  · by_cases k1 : s.kind = 1
    · simp [k1, b2, wLet, wPrint] at h
    by_cases k2 : s.kind = 2
    · simp [k2, b2, wSay, wPrint] at h
    by_cases k3 : s.kind = 3
    · simp [k3, b2, wWhen, wPrint] at h
    · simp [k0, k1, k2, k3] at h0
  by_cases b3 : b.kind = 3
  · by_cases k1 : s.kind = 1
    · simp [k1, b3, wLet, wIf] at h
    by_cases k2 : s.kind = 2
    · simp [k2, b3, wSay, wIf] at h
    by_cases k3 : s.kind = 3
    · simp [k3, b3, wWhen, wIf] at h
    · simp [k0, k1, k2, k3] at h0
  · by_cases k1 : s.kind = 1
    · simp [k1, b1, b2, b3] at h
    by_cases k2 : s.kind = 2
    · simp [k2, b1, b2, b3] at h
    by_cases k3 : s.kind = 3
    · simp [k3, b1, b2, b3] at h
    · simp [k0, k1, k2, k3] at h0
theorem bare_nil : bareR [] = some B0 := bareR_iff.2 ⟨by decide, rfl⟩
theorem stmt_nil : stmtR [] = some S0 := stmtR_iff.2 ⟨by decide, rfl⟩
theorem apart1 (s : Sl) : (stxt s == []) = (bareR (stxt s)).isSome := by
  by_cases e : stxt s = []
  · rw [e, bare_nil]; rfl
  · cases h : bareR (stxt s) with
    | none => simpa using e
    | some b =>
      exfalso
      obtain ⟨hb, ht⟩ := bareR_iff.1 h
      have hs : sok s = true := by
        cases hs : sok s with
        | true => rfl
        | false => exact absurd (by unfold stxt; rw [hs]; rfl) e
      have hx : stxt s = stext s := by unfold stxt stext; rw [if_pos hs]
      rw [hx] at ht e
      have := two_apart hs hb (words_apart hs hb ht.symm)
      exact e (by unfold stext; rw [this]; rfl)
theorem apart2 (b : Bl) : (btxt b == []) = (stmtR (btxt b)).isSome := by
  by_cases e : btxt b = []
  · rw [e, stmt_nil]; rfl
  · cases h : stmtR (btxt b) with
    | none => simpa using e
    | some s =>
      exfalso
      obtain ⟨hs, ht⟩ := stmtR_iff.1 h
      have hb : bok b = true := by
        cases hb : bok b with
        | true => rfl
        | false => exact absurd (by unfold btxt; rw [hb]; rfl) e
      have hx : btxt b = btext b := by unfold btxt btext; rw [if_pos hb]
      rw [hx] at ht e
      have hw := words_apart hs hb ht
      have := two_apart hs hb hw
      exact e (by rw [← ht]; unfold stext; rw [this]; rfl)
/-- two lines, the same or nearly -/
def oddB (b : Str) : Bool := decide ((b.length : Int) > 0) && ((b.getD 0 0).toNat : Int).tmod 2 == 1
def dBS (b : Str) : Bl × Bl := ((d7 (b.take 2000) 0).1, if oddB b then { (d7 (b.take 2000) 0).1 with name := (d7 (b.take 2000) 0).1.name ++ [97] } else (d7 (b.take 2000) 0).1)
theorem dBS_t {b : Str} (h : (decide ((b.length : Int) > 0) && ((b.getD 0 0).toNat : Int).tmod 2 == 1) = true) : dBS b = ((d7 (b.take 2000) 0).1, { (d7 (b.take 2000) 0).1 with name := (d7 (b.take 2000) 0).1.name ++ [97] }) := by
  unfold dBS; rw [if_pos (show oddB b = true from h)]
theorem dBS_f {b : Str} (h : (decide ((b.length : Int) > 0) && ((b.getD 0 0).toNat : Int).tmod 2 == 1) = false) : dBS b = ((d7 (b.take 2000) 0).1, (d7 (b.take 2000) 0).1) := by
  unfold dBS; rw [if_neg (show ¬ oddB b = true by rw [show oddB b = false from h]; simp)]
theorem hd_by (b : Str) : (decide ((b.length : Int) > 0) = true → decide ((b.length : Int) > 0) = true ∧ (0 : Int) < b.length ∧ ((byR b).getD 0 []).length = 1) ∧ (decide ((b.length : Int) > 0) = true → (decide ((b.length : Int) > 0) = true ∧ 1 ≤ ((byR b).getD 0 []).length) ∧ ({ v := ((byR b).getD 0 []).getD 0 .no } : Eff) = { v := .i .u8 (b.getD 0 0).toNat }) := by
  cases b with
  | nil => simp
  | cons c r => simp [byR]
theorem d5_name (b : Str) {p : Int} (hp : 0 ≤ p) (hp2 : p < 100000000) : (d5Some b p).1.name.length ≤ 4 := by
  obtain ⟨h1, h2, _⟩ := dSome_p b (p := p + 1) (by omega) (by omega)
  have l1 := of_len (b := b) (p := (dSome b (p + 1)).2) (l := [[120], [121], [122]]) (by decide) (by omega) (by omega) 4 (by decide)
  unfold d5Some d5
  split
  · simp [S0]
  · split
    · exact l1
    · split <;> simp
theorem d7_name (b : Str) {p : Int} (hp : 0 ≤ p) (hp2 : p < 100000000) : (d7 b p).1.name.length ≤ 5 := by
  obtain ⟨h1, h2, _⟩ := d5Some_p b hp hp2
  have l1 := of_len (b := b) (p := (d5Some b p).2 + 1) (l := [[120], [112, 114, 105, 110, 116], [88], []]) (by decide) (by omega) (by omega) 5 (by decide)
  have l2 : (bof (d5Some b p).1).name.length ≤ 5 := by have := d5_name b hp hp2; unfold bof; dsimp only; omega
  unfold d7 bentB
  split
  · exact l2
  · split
    · exact l1
    · split
      · exact l2
      · split <;> exact l2
theorem dBS_sm (b : Str) : smb (dBS b).1 = true ∧ smb (dBS b).2 = true := by
  have h := (d7_p (b.take 2000) (p := 0) (by decide) (by decide)).2.2
  have hn := d7_name (b.take 2000) (p := 0) (by decide) (by decide)
  obtain ⟨s1, s2, s3⟩ := smb_open h
  refine ⟨h, ?_⟩
  unfold dBS
  dsimp only
  split
  · simp only [smb, s2, s3, Bool.and_true, decide_eq_true_eq, List.length_append, List.length_singleton]; omega
  · exact h
theorem DrawStmtText_a (b : Str) : ACall En 54 [.sl false (byR b)] [] [.ag (sC (dl5 (b.take 2000) 0).1)] [] := by
  refine acall_of_body (fn := Tryz.f54) [] Tryz.func54 rfl rfl (by simp) fun C => ?_
  rw [entry_eq]
  simp only [Tryz.ntmps54, List.length_cons, List.length_nil, Nat.reduceAdd, Nat.reduceSub, List.replicate_succ, List.replicate_zero, List.cons_append, List.nil_append, numL]
  refine AWp.seq ?_
  refine AWp.rgn [] (by simp only [go_sem, seval, memEq, clrs, sC_eq]; rfl) ?_ ?_
  · (first | trivial | (simp; done))
  refine AWp.seq ?_
  refine AWp.rgn [callN [] [90] (l12Open_a b), callN [90] [] (l5Bent_a (b.take 2000) 0 (by simp; omega) (by decide) (by decide))] (by simp only [go_sem, seval, memEq, clrs, sC_eq]; rfl) ?_ ?_
  · (first | trivial | (simp; done))
  refine AWp.ret (And.intro (.inr rfl) ?_)
  exact Out.plain (by simp only [Tryz.results54]; rfl) (by simp only [resCs, resC, go_sem, seval, memEq, clrs, sC_eq] <;> (split <;> rfl)) (by simp only [resV, go_sem, seval, memEq, clrs, sC_eq] <;> (rfl)) (by simp only [go_sem, seval, memEq, clrs, sC_eq])
theorem DrawBareSame_a (b : Str) : ACall En 53 [.sl false (byR b)] [] [.ag (bC (dBS b).1), .ag (bC (dBS b).2)] [] := by
  refine acall_of_body (fn := Tryz.f53) [] Tryz.func53 rfl rfl (by simp) fun C => ?_
  rw [entry_eq]
  simp only [Tryz.ntmps53, List.length_cons, List.length_nil, Nat.reduceAdd, Nat.reduceSub, List.replicate_succ, List.replicate_zero, List.cons_append, List.nil_append, numL]
  refine AWp.seq ?_
  refine AWp.rgn [] (by simp only [go_sem, seval, asO, memEq, clrs, bC_eq]; rfl) ?_ ?_
  · (first | trivial | (simp; done))
  refine AWp.seq ?_
  refine AWp.rgn [callN [] [90] (l12Open_a b), callN [90] [] (l7Bent_a (b.take 2000) 0 (by simp; omega) (by decide) (by decide))] (by simp only [go_sem, seval, asO, memEq, clrs, bC_eq]; rfl) ?_ ?_
  · (first | trivial | (simp; done))
  refine AWp.seq ?_
  refine AWp.rgn [callN [] [91] (l12Open_a b), callN [91] [] (l7Bent_a (b.take 2000) 0 (by simp; omega) (by decide) (by decide))] (by simp only [go_sem, seval, asO, memEq, clrs, bC_eq]; rfl) ?_ ?_
  · (first | trivial | (simp; done))
  refine AWp.seq ?_
  refine AWp.seq ?_
  refine AWp.rgnS [18] [asO En { v := .i .u8 (b.getD 0 0).toNat }] (by simp only [go_sem, seval, asO, memEq, clrs, bC_eq]; rfl) ?_ ?_
  · exact hd_by b
  refine AWp.condB (by simp only [go_sem, seval, asO, memEq, clrs, bC_eq]; rfl) (by simp only [go_sem, seval, asO, memEq, clrs, bC_eq]) (fun h21 => ?_) (fun h21 => ?_)
  · refine AWp.rgn [] (by simp only [go_sem, seval, asO, memEq, clrs, bC_eq]; rfl) ?_ ?_
    · (have := d7_name (b.take 2000) (p := 0) (by decide) (by decide)); omega
    refine AWp.seq ?_
    refine AWp.rgnD [] enM (by simp only [go_sem, seval, asO, memEq, clrs, bC_eq]; rfl) (by rfl) ?_ ?_
    · (first | trivial | (simp; done))
    refine AWp.ret (And.intro (.inr rfl) ?_)
    exact Out.plain (by simp only [Tryz.results53]; rfl) (by simp only [resCs, resC, go_sem, seval, asO, memEq, clrs, bC_eq] <;> (split <;> rfl)) (by simp only [resV, go_sem, seval, asO, memEq, clrs, bC_eq] <;> (rw [dBS_t h21])) (by simp only [go_sem, seval, asO, memEq, clrs, bC_eq])
  · refine AWp.skip ?_
    refine AWp.seq ?_
    refine AWp.rgnD [] enM (by simp only [go_sem, seval, asO, memEq, clrs, bC_eq]; rfl) (by rfl) ?_ ?_
    · (first | trivial | (simp; done))
    refine AWp.ret (And.intro (.inr rfl) ?_)
    exact Out.plain (by simp only [Tryz.results53]; rfl) (by simp only [resCs, resC, go_sem, seval, asO, memEq, clrs, bC_eq] <;> (split <;> rfl)) (by simp only [resV, go_sem, seval, asO, memEq, clrs, bC_eq] <;> (rw [dBS_f h21])) (by simp only [go_sem, seval, asO, memEq, clrs, bC_eq])
end Go.Proofs.YthljacdbmhonfaaGreatDoor
end
