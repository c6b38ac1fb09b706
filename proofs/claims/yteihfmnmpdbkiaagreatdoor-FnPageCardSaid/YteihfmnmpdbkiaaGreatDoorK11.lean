/- Parts of the proof, one after another: Lines, drawn and torn. | A line, drawn for a page. | Pages: what is new in them. Conditions: none. -/
import Derived.Test.YteihfmnmpdbkiaaGreatDoorK10
import Derived.Test.YteihfmnmpdbkiaaGreatDoorK8
set_option linter.unusedVariables false
set_option linter.unusedSimpArgs false
namespace Go.Proofs.YteihfmnmpdbkiaaGreatDoor
section
set_option maxRecDepth 100000
set_option maxHeartbeats 4000000

theorem sStmtTxt_a (s : Sl) (hs : sms' s = true) : ACall En 178 [.ag (sC s)] [] [.s (stxt s)] [] := by
  refine acall_of_body (fn := Tryz.f178) [] Tryz.func178 rfl rfl (by simp) fun C => ?_
  rw [entry_eq]
  simp only [Tryz.ntmps178, List.length_cons, List.length_nil, Nat.reduceAdd, Nat.reduceSub, List.replicate_succ, List.replicate_zero, List.cons_append, List.nil_append, numL]
  refine AWp.seq ?_
  refine AWp.rgn [] (by simp only [go_sem, seval, sC_eq, strR_pure]; rfl) ?_ ?_
  · (first | trivial | (simp; done))
  refine AWp.seq ?_
  refine AWp.seq ?_
  refine AWp.rgn [call0 (sStmtOk_a s hs)] (by simp only [go_sem, seval, sC_eq, strR_pure]; rfl) ?_ ?_
  · (first | trivial | (simp; done))
  refine AWp.condB (by simp only [go_sem, seval, sC_eq, strR_pure]; rfl) (by simp only [go_sem, seval, sC_eq, strR_pure]) (fun h5 => ?_) (fun h5 => ?_)
  · refine AWp.seq ?_
    refine AWp.rgn [] (by simp only [go_sem, seval, sC_eq, strR_pure]; rfl) ?_ ?_
    · (first | trivial | (simp; done))
    refine AWp.ret (And.intro (.inr rfl) ?_)
    exact Out.plain (by simp only [Tryz.results178]; rfl) (by simp only [resCs, resC, go_sem, seval, sC_eq, strR_pure] <;> (split <;> rfl)) (by simp only [resV, go_sem, seval, sC_eq, strR_pure] <;> (simp at h5; simp [stxt, h5])) (by simp only [go_sem, seval, sC_eq, strR_pure])
  · refine AWp.skip ?_
    refine AWp.seq ?_
    refine AWp.rgn [callI (sok s = true) (fun h => l5Words_a s (sok_0 h) hs), callI (sok s = true) (fun h => sTokText_a (sw' s) (by have := (sw_le (sok_0 h)).1; omega) (by have := sw_text (sok_0 h); omega))] (by simp only [go_sem, seval, sC_eq, strR_pure]; rfl) ?_ ?_
    · simp at h5; simp [h5]
    refine AWp.ret (And.intro (.inr rfl) ?_)
    exact Out.plain (by simp only [Tryz.results178]; rfl) (by simp only [resCs, resC, go_sem, seval, sC_eq, strR_pure] <;> (split <;> rfl)) (by simp only [resV, go_sem, seval, sC_eq, strR_pure] <;> (simp at h5; simp [stxt, h5])) (by simp only [go_sem, seval, sC_eq, strR_pure])
theorem stxt_le (s : Sl) : (stxt s).length ≤ 120 := by
  unfold stxt; split
  · rename_i h; have := (sok_open h).1; omega
  · simp
def tearS : List Str := [[], [32], [49], [115, 97, 121, 32], [40], [120], [63], [58]]
def dT5 (b : Str) (p : Int) : Str × Int :=
  if stxt (dl5 b p).1 = [] then (stxt (dl5 b p).1, (dl5 b p).2)
  else if pickI b (dl5 b p).2 2 = 0 then (stxt (dl5 b p).1, (dl5 b p).2 + 1)
  else (torn b ((dl5 b p).2 + 1) tearS (stxt (dl5 b p).1), (dl5 b p).2 + 1 + 1 + 1 + 1)
theorem dT5_p (b : Str) {p : Int} (hp : 0 ≤ p) (hp2 : p < 10000000) : p ≤ (dT5 b p).2 ∧ (dT5 b p).2 ≤ p + 800 ∧ (dT5 b p).1.length ≤ 300 := by
  obtain ⟨h1, h2, h3⟩ := dl5_p b (p := p) hp (by omega)
  have k1 := stxt_le (dl5 b p).1
  unfold dT5
  split
  · exact ⟨h1, by dsimp only; omega, by dsimp only; omega⟩
  · split
    · exact ⟨by dsimp only; omega, by dsimp only; omega, by dsimp only; omega⟩
    · have := torn_len (b := b) (p := (dl5 b p).2 + 1) (l := tearS) (s := stxt (dl5 b p).1) 6 (by decide) (by decide) (by omega) (by omega)
      exact ⟨by dsimp only; omega, by dsimp only; omega, by dsimp only; omega⟩
theorem l5Torn_f (b : Str) (p : Int) (hb : b.length ≤ 2000) (hp : 0 ≤ p) (hp2 : p < 10000000) (h0 : (((stxt (dl5 b p).1).length : Int) == 0) = false) : ACall En 177 [.pt 0 2 0 0] [rdB b p] [.s (dT5 b p).1] [rdB b (dT5 b p).2] := by
  obtain ⟨h1, h2, h3⟩ := dl5_p b (p := p) hp (by omega)
  have k1 := stxt_le (dl5 b p).1
  have T := sStmtTxt_a (dl5 b p).1 h3
  have D := l5Bent_a b p hb hp (by omega)
  have hd : dT5 b p = if stxt (dl5 b p).1 = [] then (stxt (dl5 b p).1, (dl5 b p).2) else if pickI b (dl5 b p).2 2 = 0 then (stxt (dl5 b p).1, (dl5 b p).2 + 1) else (torn b ((dl5 b p).2 + 1) tearS (stxt (dl5 b p).1), (dl5 b p).2 + 1 + 1 + 1 + 1) := rfl
  have hne : (((stxt (dl5 b p).1).length : Int) == 0) = decide (stxt (dl5 b p).1 = []) := by rw [Bool.eq_iff_iff]; simp
  generalize (dl5 b p).1 = x at *
  generalize (dl5 b p).2 = q at *
  generalize stxt x = s at *
  refine acall_of_body (fn := Tryz.f177) [0] Tryz.func177 rfl rfl (by simp) fun C => ?_
  rw [entry_eq]
  simp only [Tryz.ntmps177, List.length_cons, List.length_nil, Nat.reduceAdd, Nat.reduceSub, List.replicate_succ, List.replicate_zero, List.cons_append, List.nil_append, numL]
  refine AWp.seq ?_
  refine AWp.rgn [] (by simp only [go_sem, seval, memEq, clrs, sC_eq, h0]; rfl) ?_ ?_
  · (first | trivial | (simp; done) | (obtain ⟨q1, q2, q3, q4, q5, q6, q7⟩ := torn_p (b := b) (p := q + 1) h0 (by omega) (by omega) (by omega); have q8 := of_len (b := b) (p := q + 1 + 1) (l := tearS) (by decide) (by omega) (by omega) 6 (by decide); rw [q3]; refine ⟨⟨⟨⟨⟨⟨q1, q2, Int.le_refl _, by simp⟩, by simp [tearS, strR, ler, les, leV], by simp⟩, by omega⟩, by simp⟩, q4, q5, Int.le_refl _⟩, ?_⟩; simp only [List.length_append, List.length_drop, List.length_take] at q7 ⊢; omega))
  refine AWp.seq ?_
  refine AWp.rgn [callN [0] [] D, call0 T] (by simp only [go_sem, seval, memEq, clrs, sC_eq, h0]; rfl) ?_ ?_
  · (first | trivial | (simp; done) | (obtain ⟨q1, q2, q3, q4, q5, q6, q7⟩ := torn_p (b := b) (p := q + 1) h0 (by omega) (by omega) (by omega); have q8 := of_len (b := b) (p := q + 1 + 1) (l := tearS) (by decide) (by omega) (by omega) 6 (by decide); rw [q3]; refine ⟨⟨⟨⟨⟨⟨q1, q2, Int.le_refl _, by simp⟩, by simp [tearS, strR, ler, les, leV], by simp⟩, by omega⟩, by simp⟩, q4, q5, Int.le_refl _⟩, ?_⟩; simp only [List.length_append, List.length_drop, List.length_take] at q7 ⊢; omega))
  refine AWp.seq ?_
  refine AWp.seq ?_
  refine AWp.rgn [callN [0] [] (pick_a b q 2 hb (by omega) (by omega))] (by simp only [go_sem, seval, memEq, clrs, sC_eq, h0]; rfl) ?_ ?_
  · (first | trivial | (simp; done) | (obtain ⟨q1, q2, q3, q4, q5, q6, q7⟩ := torn_p (b := b) (p := q + 1) h0 (by omega) (by omega) (by omega); have q8 := of_len (b := b) (p := q + 1 + 1) (l := tearS) (by decide) (by omega) (by omega) 6 (by decide); rw [q3]; refine ⟨⟨⟨⟨⟨⟨q1, q2, Int.le_refl _, by simp⟩, by simp [tearS, strR, ler, les, leV], by simp⟩, by omega⟩, by simp⟩, q4, q5, Int.le_refl _⟩, ?_⟩; simp only [List.length_append, List.length_drop, List.length_take] at q7 ⊢; omega))
  refine AWp.condB (by simp only [go_sem, seval, memEq, clrs, sC_eq, h0]; rfl) (by simp only [go_sem, seval, memEq, clrs, sC_eq, h0]) (fun h15 => ?_) (fun h15 => ?_)
  · refine AWp.seq ?_
    refine AWp.rgn [] (by simp only [go_sem, seval, memEq, clrs, sC_eq, h0]; rfl) ?_ ?_
    · (first | trivial | (simp; done) | (obtain ⟨q1, q2, q3, q4, q5, q6, q7⟩ := torn_p (b := b) (p := q + 1) h0 (by omega) (by omega) (by omega); have q8 := of_len (b := b) (p := q + 1 + 1) (l := tearS) (by decide) (by omega) (by omega) 6 (by decide); rw [q3]; refine ⟨⟨⟨⟨⟨⟨q1, q2, Int.le_refl _, by simp⟩, by simp [tearS, strR, ler, les, leV], by simp⟩, by omega⟩, by simp⟩, q4, q5, Int.le_refl _⟩, ?_⟩; simp only [List.length_append, List.length_drop, List.length_take] at q7 ⊢; omega))
    refine AWp.ret (And.intro (.inr rfl) ?_)
    exact Out.mem' (by simp only [Tryz.results177]; rfl) (by simp only [resCs, resC, go_sem, seval, memEq, clrs, sC_eq, h0]) (by simp only [resV, rns, rn, go_sem, seval, memEq, clrs, sC_eq, h0] <;> (rw [h0] at hne; rw [hd, if_neg (of_decide_eq_false hne.symm), if_pos (by simpa using h15)])) (by simp) rfl (by decide) (by simp only [go_sem, seval, memEq, clrs, sC_eq, h0]) (by simp only [clrs, go_sem, seval, memEq, clrs, sC_eq, h0]) (by simp only [memEq, go_sem, seval, memEq, clrs, sC_eq, h0] <;> (rw [h0] at hne; rw [hd, if_neg (of_decide_eq_false hne.symm), if_pos (by simpa using h15)]))
  · refine AWp.skip ?_
    refine AWp.seq ?_
    refine AWp.rgn [callN [0] [] (pick_a b (q + 1) s.length hb (by omega) (by omega))] (by simp only [go_sem, seval, memEq, clrs, sC_eq, h0]; rfl) ?_ ?_
    · (first | trivial | (simp; done) | (obtain ⟨q1, q2, q3, q4, q5, q6, q7⟩ := torn_p (b := b) (p := q + 1) h0 (by omega) (by omega) (by omega); have q8 := of_len (b := b) (p := q + 1 + 1) (l := tearS) (by decide) (by omega) (by omega) 6 (by decide); rw [q3]; refine ⟨⟨⟨⟨⟨⟨q1, q2, Int.le_refl _, by simp⟩, by simp [tearS, strR, ler, les, leV], by simp⟩, by omega⟩, by simp⟩, q4, q5, Int.le_refl _⟩, ?_⟩; simp only [List.length_append, List.length_drop, List.length_take] at q7 ⊢; omega))
    refine AWp.seq ?_
    refine AWp.rgnD [callN [0] [] (of_a b (q + 1 + 1) tearS (by decide) hb (by omega) (by omega)), callN [0] [] (pick_a b (q + 1 + 1 + 1) 2 hb (by omega) (by omega))] enM (by simp only [go_sem, seval, memEq, clrs, sC_eq, h0]; rfl) (by rfl) ?_ ?_
    · (first | trivial | (simp; done) | (obtain ⟨q1, q2, q3, q4, q5, q6, q7⟩ := torn_p (b := b) (p := q + 1) h0 (by omega) (by omega) (by omega); have q8 := of_len (b := b) (p := q + 1 + 1) (l := tearS) (by decide) (by omega) (by omega) 6 (by decide); rw [q3]; refine ⟨⟨⟨⟨⟨⟨q1, q2, Int.le_refl _, by simp⟩, by simp [tearS, strR, ler, les, leV], by simp⟩, by omega⟩, by simp⟩, q4, q5, Int.le_refl _⟩, ?_⟩; simp only [List.length_append, List.length_drop, List.length_take] at q7 ⊢; omega))
    refine AWp.ret (And.intro (.inr rfl) ?_)
    exact Out.mem' (by simp only [Tryz.results177]; rfl) (by simp only [resCs, resC, go_sem, seval, memEq, clrs, sC_eq, h0]) (by simp only [resV, rns, rn, go_sem, seval, memEq, clrs, sC_eq, h0] <;> (rw [h0] at hne; rw [hd, if_neg (of_decide_eq_false hne.symm), if_neg (by simpa using h15)]; dsimp only; rw [torn, (torn_p (b := b) (p := q + 1) h0 (by omega) (by omega) (by omega)).2.2.1, (torn_p (b := b) (p := q + 1) h0 (by omega) (by omega) (by omega)).2.2.2.2.2.1, List.take_length])) (by simp) rfl (by decide) (by simp only [go_sem, seval, memEq, clrs, sC_eq, h0]) (by simp only [clrs, go_sem, seval, memEq, clrs, sC_eq, h0]) (by simp only [memEq, go_sem, seval, memEq, clrs, sC_eq, h0] <;> (rw [h0] at hne; rw [hd, if_neg (of_decide_eq_false hne.symm), if_neg (by simpa using h15)]))
theorem l5Torn_t (b : Str) (p : Int) (hb : b.length ≤ 2000) (hp : 0 ≤ p) (hp2 : p < 10000000) (h0 : (((stxt (dl5 b p).1).length : Int) == 0) = true) : ACall En 177 [.pt 0 2 0 0] [rdB b p] [.s (dT5 b p).1] [rdB b (dT5 b p).2] := by
  obtain ⟨h1, h2, h3⟩ := dl5_p b (p := p) hp (by omega)
  have k1 := stxt_le (dl5 b p).1
  have T := sStmtTxt_a (dl5 b p).1 h3
  have D := l5Bent_a b p hb hp (by omega)
  have hd : dT5 b p = if stxt (dl5 b p).1 = [] then (stxt (dl5 b p).1, (dl5 b p).2) else if pickI b (dl5 b p).2 2 = 0 then (stxt (dl5 b p).1, (dl5 b p).2 + 1) else (torn b ((dl5 b p).2 + 1) tearS (stxt (dl5 b p).1), (dl5 b p).2 + 1 + 1 + 1 + 1) := rfl
  have hne : (((stxt (dl5 b p).1).length : Int) == 0) = decide (stxt (dl5 b p).1 = []) := by rw [Bool.eq_iff_iff]; simp
  generalize (dl5 b p).1 = x at *
  generalize (dl5 b p).2 = q at *
  generalize stxt x = s at *
  refine acall_of_body (fn := Tryz.f177) [0] Tryz.func177 rfl rfl (by simp) fun C => ?_
  rw [entry_eq]
  simp only [Tryz.ntmps177, List.length_cons, List.length_nil, Nat.reduceAdd, Nat.reduceSub, List.replicate_succ, List.replicate_zero, List.cons_append, List.nil_append, numL]
  refine AWp.seq ?_
  refine AWp.rgn [] (by simp only [go_sem, seval, memEq, clrs, sC_eq, h0]; rfl) ?_ ?_
  · (first | trivial | (simp; done))
  refine AWp.seq ?_
  refine AWp.rgn [callN [0] [] D, call0 T] (by simp only [go_sem, seval, memEq, clrs, sC_eq, h0]; rfl) ?_ ?_
  · (first | trivial | (simp; done))
  refine AWp.seq ?_
  refine AWp.seq ?_
  refine AWp.rgn [callN [0] [] (pick_a b q 2 hb (by omega) (by omega))] (by simp only [go_sem, seval, memEq, clrs, sC_eq, h0]; rfl) ?_ ?_
  · (first | trivial | (simp; done))
  refine AWp.condB (by simp only [go_sem, seval, memEq, clrs, sC_eq, h0]; rfl) (by simp only [go_sem, seval, memEq, clrs, sC_eq, h0]) (fun h15 => ?_) (fun h15 => ?_)
  · refine AWp.seq ?_
    refine AWp.rgn [] (by simp only [go_sem, seval, memEq, clrs, sC_eq, h0]; rfl) ?_ ?_
    · (first | trivial | (simp; done))
    refine AWp.ret (And.intro (.inr rfl) ?_)
    exact Out.mem' (by simp only [Tryz.results177]; rfl) (by simp only [resCs, resC, go_sem, seval, memEq, clrs, sC_eq, h0]) (by simp only [resV, rns, rn, go_sem, seval, memEq, clrs, sC_eq, h0] <;> (rw [h0] at hne; rw [hd, if_pos (of_decide_eq_true hne.symm)])) (by simp) rfl (by decide) (by simp only [go_sem, seval, memEq, clrs, sC_eq, h0]) (by simp only [clrs, go_sem, seval, memEq, clrs, sC_eq, h0]) (by simp only [memEq, go_sem, seval, memEq, clrs, sC_eq, h0] <;> (rw [h0] at hne; rw [hd, if_pos (of_decide_eq_true hne.symm)]))
  · simp at h15
theorem l5Torn_a (b : Str) (p : Int) (hb : b.length ≤ 2000) (hp : 0 ≤ p) (hp2 : p < 10000000) : ACall En 177 [.pt 0 2 0 0] [rdB b p] [.s (dT5 b p).1] [rdB b (dT5 b p).2] := by
  cases h0 : (((stxt (dl5 b p).1).length : Int) == 0) with
  | true => exact l5Torn_t b p hb hp hp2 h0
  | false => exact l5Torn_f b p hb hp hp2 h0
def dTo (b : Str) (p : Int) : Str × Int := if pickI b p 5 = 0 then dT5 b (p + 1) else (stxt (d5Some b (p + 1)).1, (d5Some b (p + 1)).2)
theorem dTo_p (b : Str) {p : Int} (hp : 0 ≤ p) (hp2 : p < 5000000) : p ≤ (dTo b p).2 ∧ (dTo b p).2 ≤ p + 1000 ∧ (dTo b p).1.length ≤ 300 := by
  obtain ⟨h1, h2, h3⟩ := dT5_p b (p := p + 1) (by omega) (by omega)
  obtain ⟨q1, q2, _⟩ := d5Some_p b (p := p + 1) (by omega) (by omega)
  have k1 := stxt_le (d5Some b (p + 1)).1
  unfold dTo
  split
  · exact ⟨by omega, by omega, h3⟩
  · exact ⟨by dsimp only; omega, by dsimp only; omega, by dsimp only; omega⟩
theorem l10Torn_a (b : Str) (p : Int) (hb : b.length ≤ 2000) (hp : 0 ≤ p) (hp2 : p < 5000000) : ACall En 125 [.pt 0 2 0 0] [rdB b p] [.s (dTo b p).1] [rdB b (dTo b p).2] := by
  have D := l5Torn_a b (p + 1) hb (by omega) (by omega)
  have D2 := l5Some_a b (p + 1) hb (by omega) (by omega)
  obtain ⟨q1, q2, q3, _⟩ := d5Some_p b (p := p + 1) (by omega) (by omega)
  have T := sStmtTxt_a (d5Some b (p + 1)).1 q3
  have hd : dTo b p = if pickI b p 5 = 0 then dT5 b (p + 1) else (stxt (d5Some b (p + 1)).1, (d5Some b (p + 1)).2) := rfl
  generalize dT5 b (p + 1) = u at *
  generalize d5Some b (p + 1) = v at *
  refine acall_of_body (fn := Tryz.f125) [0] Tryz.func125 rfl rfl (by simp) fun C => ?_
  rw [entry_eq]
  simp only [Tryz.ntmps125, List.length_cons, List.length_nil, Nat.reduceAdd, Nat.reduceSub, List.replicate_succ, List.replicate_zero, List.cons_append, List.nil_append, numL]
  refine AWp.seq ?_
  refine AWp.rgn [] (by simp only [go_sem, seval, memEq, clrs, sC_eq]; rfl) ?_ ?_
  · (first | trivial | (simp; done))
  refine AWp.seq ?_
  refine AWp.seq ?_
  refine AWp.rgn [callN [0] [] (pick_a b p 5 hb hp (by omega))] (by simp only [go_sem, seval, memEq, clrs, sC_eq]; rfl) ?_ ?_
  · (first | trivial | (simp; done))
  refine AWp.condB (by simp only [go_sem, seval, memEq, clrs, sC_eq]; rfl) (by simp only [go_sem, seval, memEq, clrs, sC_eq]) (fun h5 => ?_) (fun h5 => ?_)
  · refine AWp.seq ?_
    refine AWp.rgn [callN [0] [] D] (by simp only [go_sem, seval, memEq, clrs, sC_eq]; rfl) ?_ ?_
    · (first | trivial | (simp; done))
    refine AWp.ret (And.intro (.inr rfl) ?_)
    exact Out.mem' (by simp only [Tryz.results125]; rfl) (by simp only [resCs, resC, go_sem, seval, memEq, clrs, sC_eq]) (by simp only [resV, rns, rn, go_sem, seval, memEq, clrs, sC_eq] <;> (rw [hd, if_pos (by simpa using h5)])) (by simp) rfl (by decide) (by simp only [go_sem, seval, memEq, clrs, sC_eq]) (by simp only [clrs, go_sem, seval, memEq, clrs, sC_eq]) (by simp only [memEq, go_sem, seval, memEq, clrs, sC_eq] <;> (rw [hd, if_pos (by simpa using h5)]))
  · refine AWp.skip ?_
    refine AWp.seq ?_
    refine AWp.rgn [callN [0] [] D2, call0 T] (by simp only [go_sem, seval, memEq, clrs, sC_eq]; rfl) ?_ ?_
    · (first | trivial | (simp; done))
    refine AWp.ret (And.intro (.inr rfl) ?_)
    exact Out.mem' (by simp only [Tryz.results125]; rfl) (by simp only [resCs, resC, go_sem, seval, memEq, clrs, sC_eq]) (by simp only [resV, rns, rn, go_sem, seval, memEq, clrs, sC_eq] <;> (rw [hd, if_neg (by simpa using h5)])) (by simp) rfl (by decide) (by simp only [go_sem, seval, memEq, clrs, sC_eq]) (by simp only [clrs, go_sem, seval, memEq, clrs, sC_eq]) (by simp only [memEq, go_sem, seval, memEq, clrs, sC_eq] <;> (rw [hd, if_neg (by simpa using h5)]))
end

section
set_option maxRecDepth 100000
set_option maxHeartbeats 4000000

theorem isLn_ok {s : Str} (h : lnOk s) : isLn s = true := by
  have h1 := tokW_line (w := 0) h.1 (by have := h.2; omega)
  have h2 := h.2
  unfold isLn tOk
  rw [h1, decide_eq_true (by omega)]
  have : hasNl s = false := by unfold hasNl; rw [Bool.eq_false_iff]; intro q; exact lnOk_ten h (by simpa using q)
  rw [this]; rfl
theorem isLn_stmt {s : Str} (h : (stmtR s).isSome = true) : isLn s = true := by
  cases hx : stmtR s with
  | none => rw [hx] at h; cases h
  | some x =>
    obtain ⟨h1, h2⟩ := stmtR_iff.1 hx
    rw [← h2]; exact isLn_ok (lnOk_stext h1)
def manyA (n : Nat) : Str := List.replicate n 97
theorem manyA_app (a b : Nat) : manyA a ++ manyA b = manyA (a + b) := by unfold manyA; rw [List.replicate_append_replicate]
theorem manyA_len (n : Nat) : (manyA n).length = n := by simp [manyA]
theorem manyI_step {o a n N : Nat} (h : o + a * n = N) : (o + if n % 2 = 1 then a else 0) + 2 * a * (n / 2) = N := by
  have e := Nat.div_add_mod n 2
  have e2 : a * n = 2 * a * (n / 2) + a * (n % 2) := by
    conv => lhs; rw [← e]
    rw [Nat.mul_add, ← Nat.mul_assoc, Nat.mul_comm a 2]
  rcases Nat.mod_two_eq_zero_or_one n with q | q
  · rw [q] at e2 ⊢; simp at e2 ⊢; omega
  · rw [q] at e2 ⊢; simp at e2 ⊢; omega
theorem manyI_le {o a n N : Nat} (h : o + a * n = N) (hn : 0 < n) : a ≤ N := by
  have := Nat.le_mul_of_pos_right a hn; omega
theorem l12Many_a (N : Nat) (hN : N ≤ 100000) : ACall En 126 [.s [97], .i .i64 N] [] [.s (manyA N)] [] := by
  have hm : ∀ n : Nat, (n : Int).tmod 2 = ((n % 2 : Nat) : Int) := fun n => by rw [Int.tmod_eq_emod_of_nonneg (by omega)]; rfl
  have hd : ∀ n : Nat, (n : Int).tdiv 2 = ((n / 2 : Nat) : Int) := fun n => by rw [Int.tdiv_eq_ediv_of_nonneg (by omega)]; rfl
  refine acall_of_body (fn := Tryz.f126) [] Tryz.func126 rfl rfl (by simp) fun C => ?_
  rw [entry_eq]
  simp only [Tryz.ntmps126, List.length_cons, List.length_nil, Nat.reduceAdd, Nat.reduceSub, List.replicate_succ, List.replicate_zero, List.cons_append, List.nil_append, numL]
  refine AWp.seq ?_
  refine AWp.rgn [] (by simp only [go_sem, seval]; rfl) ?_ ?_
  · (first | trivial | (simp; done) | (have q2 := manyI_le hI.1 (by simpa using h7); simp only [manyA_len]; omega))
  refine AWp.seq ?_
  refine AWp.rgn [] (by simp only [go_sem, seval]; rfl) ?_ ?_
  · (first | trivial | (simp; done) | (have q2 := manyI_le hI.1 (by simpa using h7); simp only [manyA_len]; omega))
  refine AWp.seq ?_
  refine AWp.block ?_
  refine AWp.loopK (fun q : Nat × Nat × Nat => ⟨[.s (manyA q.2.1), .i .i64 q.1, .no, .no, .no, .s (manyA q.2.2), .no, .no, .no, .no, .no, .no, .no, .no, .no, .no, .no, .no, .no, .no], memOf [], us []⟩) (fun q : Nat × Nat × Nat => q.2.2 + q.2.1 * q.1 = N ∧ q.2.1 ≤ 2 * N + 1 ∧ q.1 ≤ N) (fun q : Nat × Nat × Nat => q.1) ((N, 1, 0)) ?_ ?_ (fun q hI => ?_)
  · exact ⟨by simp, by dsimp only; omega, Nat.le_refl _⟩
  · exact Can.weak (Weak.lit (by simp only [go_sem, seval, subM, leV, inns, innr, V.inn, us, true_or, or_true] <;> ((try simp [manyA]))) (by simp only [go_sem, seval, subM, leV, inns, innr, V.inn, us, true_or, or_true]) (by simp only [go_sem, seval, subM, leV, inns, innr, V.inn, us, true_or, or_true]))
  refine AWp.seq ?_
  refine AWp.seq ?_
  refine AWp.rgn [] (by simp only [go_sem, seval]; rfl) ?_ ?_
  · (first | trivial | (simp; done) | (have q2 := manyI_le hI.1 (by simpa using h7); simp only [manyA_len]; omega))
  refine AWp.condB (by simp only [go_sem, seval]; rfl) (by simp only [go_sem, seval]) (fun h7 => ?_) (fun h7 => ?_)
  · refine AWp.skip ?_
    refine AWp.block ?_
    refine AWp.seqJ (fun p : Nat => ⟨[.s (manyA q.2.1), .i .i64 q.1, .no, .no, .no, .s (manyA p), .no, .no, .no, .no, .no, .no, .no, .no, .no, .no, .no, .no, .no, .no], memOf [], us []⟩) (fun p : Nat => p = q.2.2 + (if q.1 % 2 = 1 then q.2.1 else 0)) ?_ (fun p hJ => ?_)
    · refine AWp.seq ?_
      refine AWp.rgn [] (by simp only [go_sem, seval]; rfl) ?_ ?_
      · (first | trivial | (simp; done) | (have q2 := manyI_le hI.1 (by simpa using h7); simp only [manyA_len]; omega))
      refine AWp.condB (by simp only [go_sem, seval]; rfl) (by simp only [go_sem, seval]) (fun h10 => ?_) (fun h10 => ?_)
      · refine AWp.rgn [] (by simp only [go_sem, seval]; rfl) ?_ ?_
        · (first | trivial | (simp; done) | (have q2 := manyI_le hI.1 (by simpa using h7); simp only [manyA_len]; omega))
        refine Exists.intro (q.2.2 + q.2.1) ⟨?_, ?_⟩
        · rw [hm] at h10; first | (rw [if_pos (by rw [beq_iff_eq] at h10; omega)]) | (rw [if_neg (by rw [beq_eq_false_iff_ne] at h10; omega)]; rfl)
        exact Can.weak (Weak.lit (by simp only [go_sem, seval, subM, leV, inns, innr, V.inn, us, true_or, or_true] <;> (first | rfl | rw [manyA_app])) (by simp only [go_sem, seval, subM, leV, inns, innr, V.inn, us, true_or, or_true]) (by simp only [go_sem, seval, subM, leV, inns, innr, V.inn, us, true_or, or_true]))
      · refine AWp.skip ?_
        refine Exists.intro (q.2.2) ⟨?_, ?_⟩
        · rw [hm] at h10; first | (rw [if_pos (by rw [beq_iff_eq] at h10; omega)]) | (rw [if_neg (by rw [beq_eq_false_iff_ne] at h10; omega)]; rfl)
        exact Can.weak (Weak.lit (by simp only [go_sem, seval, subM, leV, inns, innr, V.inn, us, true_or, or_true] <;> (first | rfl | rw [manyA_app])) (by simp only [go_sem, seval, subM, leV, inns, innr, V.inn, us, true_or, or_true]) (by simp only [go_sem, seval, subM, leV, inns, innr, V.inn, us, true_or, or_true]))
    refine AWp.seq ?_
    refine AWp.rgn [] (by simp only [go_sem, seval]; rfl) ?_ ?_
    · (first | trivial | (simp; done) | (have q2 := manyI_le hI.1 (by simpa using h7); simp only [manyA_len]; omega))
    refine AWp.rgn [] (by simp only [go_sem, seval]; rfl) ?_ ?_
    · (first | trivial | (simp; done) | (have q2 := manyI_le hI.1 (by simpa using h7); simp only [manyA_len]; omega))
    refine Exists.intro ((q.1 / 2, 2 * q.2.1, p)) ⟨?_, ?_, ?_⟩
    · have q2 := manyI_le hI.1 (by simpa using h7); exact ⟨by dsimp only; rw [hJ]; exact manyI_step hI.1, by dsimp only; omega, by dsimp only; omega⟩
    · simp at h7; dsimp only; omega
    exact Can.weak (Weak.lit (by simp only [go_sem, seval, subM, leV, inns, innr, V.inn, us, true_or, or_true] <;> (have q2 := manyI_le hI.1 (by simpa using h7); exact ⟨by rw [manyA_app]; congr 1; omega, by rw [hd, wrap64 (by omega) (by have := hI.2.2; omega)]⟩)) (by simp only [go_sem, seval, subM, leV, inns, innr, V.inn, us, true_or, or_true]) (by simp only [go_sem, seval, subM, leV, inns, innr, V.inn, us, true_or, or_true]))
  · refine AWp.exit ?_
    refine AWp.seq ?_
    refine AWp.rgn [] (by simp only [go_sem, seval]; rfl) ?_ ?_
    · (first | trivial | (simp; done) | (have q2 := manyI_le hI.1 (by simpa using h7); simp only [manyA_len]; omega))
    refine AWp.ret (And.intro (.inr rfl) ?_)
    exact Out.plain (by simp only [Tryz.results126]; rfl) (by simp only [resCs, resC, go_sem, seval] <;> (split <;> rfl)) (by simp only [resV, go_sem, seval] <;> (have e := hI.1; have q1 : q.1 = 0 := (by simpa using h7); rw [q1] at e; simp at e; rw [e])) (by simp only [go_sem, seval])
def dPg (b : Str) : Str :=
  if pickI b (dTo b 0).2 20 = 0 then (dTo b 0).1 ++ [10]
  else if pickI b (dTo b 0).2 20 = 1 then manyA (120 + pickI b ((dTo b 0).2 + 1) 2).toNat
  else (dTo b 0).1
theorem dPg_len (b : Str) : (dPg b).length ≤ 1000 := by
  obtain ⟨h1, h2, h3⟩ := dTo_p b (p := 0) (by decide) (by decide)
  have := pickI_le b (p := (dTo b 0).2 + 1) (n := 2) (by omega) (by omega) (by decide)
  unfold dPg
  split
  · simp; omega
  · split
    · simp [manyA]; omega
    · omega
theorem DrawPageOf_a (c : Str) : ACall En 59 [.sl false (byR c)] [] [.s (dPg (c.take 2000))] [] := by
  have hb : (c.take 2000).length ≤ 2000 := by simp; omega
  have hO := l12Open_a c
  generalize hc : c.take 2000 = b at *
  obtain ⟨h1, h2, h3⟩ := dTo_p b (p := 0) (by decide) (by decide)
  have D := l10Torn_a b 0 hb (by decide) (by decide)
  have hd : dPg b = if pickI b (dTo b 0).2 20 = 0 then (dTo b 0).1 ++ [10] else if pickI b (dTo b 0).2 20 = 1 then manyA (120 + pickI b ((dTo b 0).2 + 1) 2).toNat else (dTo b 0).1 := rfl
  have hp := pickI_le b (p := (dTo b 0).2 + 1) (n := 2) (by omega) (by omega) (by decide)
  generalize dTo b 0 = u at *
  have hw : IntKind.i64.wrap (120 + pickI b (u.2 + 1) 2) = (((120 + pickI b (u.2 + 1) 2).toNat : Nat) : Int) := by rw [wrap64 (by omega) (by omega)]; omega
  have M := l12Many_a (120 + pickI b (u.2 + 1) 2).toNat (by omega)
  refine acall_of_body (fn := Tryz.f59) [] Tryz.func59 rfl rfl (by simp) fun C => ?_
  rw [entry_eq]
  simp only [Tryz.ntmps59, List.length_cons, List.length_nil, Nat.reduceAdd, Nat.reduceSub, List.replicate_succ, List.replicate_zero, List.cons_append, List.nil_append, numL]
  refine AWp.seq ?_
  refine AWp.rgn [] (by simp only [go_sem, seval, memEq, clrs, hw]; rfl) ?_ ?_
  · (first | trivial | (simp; done) | omega)
  refine AWp.seq ?_
  refine AWp.rgn [callN [] [16] hO] (by simp only [go_sem, seval, memEq, clrs, hw]; rfl) ?_ ?_
  · (first | trivial | (simp; done) | omega)
  refine AWp.seq ?_
  refine AWp.rgn [callN [16] [] D] (by simp only [go_sem, seval, memEq, clrs, hw]; rfl) ?_ ?_
  · (first | trivial | (simp; done) | omega)
  refine AWp.seq ?_
  refine AWp.seq ?_
  refine AWp.rgn [callN [16] [] (pick_a b u.2 20 hb (by omega) (by omega))] (by simp only [go_sem, seval, memEq, clrs, hw]; rfl) ?_ ?_
  · (first | trivial | (simp; done) | omega)
  refine AWp.block ?_
  refine AWp.seq ?_
  refine AWp.rgn [] (by simp only [go_sem, seval, memEq, clrs, hw]; rfl) ?_ ?_
  · (first | trivial | (simp; done) | omega)
  refine AWp.condB (by simp only [go_sem, seval, memEq, clrs, hw]; rfl) (by simp only [go_sem, seval, memEq, clrs, hw]) (fun h11 => ?_) (fun h11 => ?_)
  · refine AWp.seq ?_
    refine AWp.rgn [] (by simp only [go_sem, seval, memEq, clrs, hw]; rfl) ?_ ?_
    · (first | trivial | (simp; done) | omega)
    refine AWp.ret (And.intro (.inr rfl) ?_)
    exact Out.plain (by simp only [Tryz.results59]; rfl) (by simp only [resCs, resC, go_sem, seval, memEq, clrs, hw] <;> (split <;> rfl)) (by simp only [resV, go_sem, seval, memEq, clrs, hw] <;> (rw [hd, if_pos (by simpa using h11)])) (by simp only [go_sem, seval, memEq, clrs, hw])
  · refine AWp.seq ?_
    refine AWp.rgn [] (by simp only [go_sem, seval, memEq, clrs, hw]; rfl) ?_ ?_
    · (first | trivial | (simp; done) | omega)
    refine AWp.condB (by simp only [go_sem, seval, memEq, clrs, hw]; rfl) (by simp only [go_sem, seval, memEq, clrs, hw]) (fun h15 => ?_) (fun h15 => ?_)
    · refine AWp.seq ?_
      refine AWp.rgn [callN [16] [] (pick_a b (u.2 + 1) 2 hb (by omega) (by omega)), call0 M] (by simp only [go_sem, seval, memEq, clrs, hw]; rfl) ?_ ?_
      · (first | trivial | (simp; done) | omega)
      refine AWp.ret (And.intro (.inr rfl) ?_)
      exact Out.plain (by simp only [Tryz.results59]; rfl) (by simp only [resCs, resC, go_sem, seval, memEq, clrs, hw] <;> (split <;> rfl)) (by simp only [resV, go_sem, seval, memEq, clrs, hw] <;> (rw [hd, if_neg (by simpa using h11), if_pos (by simpa using h15)])) (by simp only [go_sem, seval, memEq, clrs, hw])
    · refine AWp.skip ?_
      refine AWp.seq ?_
      refine AWp.rgn [] (by simp only [go_sem, seval, memEq, clrs, hw]; rfl) ?_ ?_
      · (first | trivial | (simp; done) | omega)
      refine AWp.ret (And.intro (.inr rfl) ?_)
      exact Out.plain (by simp only [Tryz.results59]; rfl) (by simp only [resCs, resC, go_sem, seval, memEq, clrs, hw] <;> (split <;> rfl)) (by simp only [resV, go_sem, seval, memEq, clrs, hw] <;> (rw [hd, if_neg (by simpa using h11), if_neg (by simpa using h15)])) (by simp only [go_sem, seval, memEq, clrs, hw])
end

section
set_option maxRecDepth 100000
set_option maxHeartbeats 4000000
end
end Go.Proofs.YteihfmnmpdbkiaaGreatDoor
