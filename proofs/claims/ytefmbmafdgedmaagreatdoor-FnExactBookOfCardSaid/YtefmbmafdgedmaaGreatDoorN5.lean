/- The reference's reader: how far it comes, and how great is what it reads. Conditions: none. -/
import Derived.Test.YtefmbmafdgedmaaGreatDoorNd
import Derived.Test.YtefmbmafdgedmaaGreatDoorNt
import Derived.Test.YtefmbmafdgedmaaGreatDoorN4
import Derived.Test.YtefmbmafdgedmaaGreatDoorNi
import Derived.Test.YtefmbmafdgedmaaGreatDoorNu
set_option linter.unusedVariables false
set_option linter.unusedSimpArgs false
namespace Go.Proofs.YtefmbmafdgedmaaGreatDoor
section
theorem hm_ {w : List Str} {k : Nat} (h : w.getD k [] ≠ []) : k < w.length := by
 rcases Nat.lt_or_ge k w.length with q | q
 ·exact q
 ·exact absurd (by rw [List.getD_eq_getElem?_getD, List.getElem?_eq_none q]; rfl) h
theorem sh_ {w : List Str} {k : Nat} (h : c2_ (w.getD k []) = true) : k < w.length := hm_ fun e => by rw [e] at h; simp only [c2_, Bool.and_eq_true, beq_iff_eq] at h; exact eu_ _ h.2
theorem xx_ {w : List Str} {k : Nat} (h : f8_ (w.getD k []) = true) : k < w.length := hm_ fun e => by rw [e] at h; exact absurd h (by decide)
theorem o7_ {w : List Str} {k : Nat} (h : ew_ (w.getD k []) = true) : k < w.length := hm_ fun e => by rw [e] at h; exact absurd h (by decide)
theorem rx_ {w : List Str} (h : smW w) (k : Nat) : (w.getD k []).length < 4611686018427387904 := by
 rcases Nat.lt_or_ge k w.length with q | q
 ·have := h _ (bo_ (d := []) q); omega
 ·rw [List.getD_eq_getElem?_getD, List.getElem?_eq_none q]; simp
theorem s_as (w : List Str) (hw : smW w) : ∀ n k e, sm e = true → sm (sAs n w k e).1 = true ∧ ∀ b, (sAs n w k e).2 = some b → k ≤ b ∧ (b ≤ k ∨ b ≤ w.length)
 | 0, k, e, h => ⟨h, fun b q => by simp [sAs] at q⟩
 | n + 1, k, e, h => by
  unfold sAs
  split
  ·split
   ·rename_i h2
    obtain ⟨q1, q2⟩ := s_as w hw n (k + 2) (.mk 4 0 (w.getD (k + 1) []) [e]) (wf_ (rx_ hw _) h)
    have hk := o7_ h2
    exact ⟨q1, fun b hb => by have := q2 b hb; omega⟩
   ·exact ⟨h, fun b q => by simp at q⟩
  ·exact ⟨h, fun b q => by simp at q; omega⟩
theorem ahy_ : sm E0 = true := by decide
theorem ou_ (w : List Str) (hw : smW w) : ∀ n : Nat,
  (∀ k d, sm (ea_ n w k d).1 = true ∧ ∀ b, (ea_ n w k d).2 = some b → k + 1 ≤ b ∧ b ≤ w.length) ∧
  (∀ k t d, sm (sLp n w k t d).1 = true ∧ ∀ b, (sLp n w k t d).2 = some b → k + 1 ≤ b ∧ b ≤ w.length) ∧
  (∀ t d e o, sm e = true → sm (em_ n w t d e o).1 = true ∧ ∀ b, (em_ n w t d e o).2 = some b → ∃ k, o = some k ∧ k ≤ b ∧ (b ≤ k ∨ b ≤ w.length)) ∧
  (∀ k d, sm (sL1 n w k d).1 = true ∧ ∀ b, (sL1 n w k d).2 = some b → k + 1 ≤ b ∧ b ≤ w.length)
 | 0 => ⟨fun k d => ⟨by simp only [ea_]; decide, fun b q => by simp [ea_] at q⟩, fun k t d => ⟨by simp only [sLp]; decide, fun b q => by simp [sLp] at q⟩, fun t d e o h => ⟨by simp only [em_]; exact h, fun b q => by simp [em_] at q⟩, fun k d => ⟨by simp only [sL1]; decide, fun b q => by simp [sL1] at q⟩⟩
 | n + 1 => by
  obtain ⟨a1, a2, a3, a4⟩ := ou_ w hw n
  refine ⟨fun k d => ?_, fun k t d => ?_, fun t d e o h => ?_, fun k d => ?_⟩
  ·unfold ea_
   split
   ·rename_i h
    have hk := sh_ h
    obtain ⟨q1, q2⟩ := s_as w hw n (k + 1) (.mk 1 (b8_ (w.getD k [])) [] []) (m8_ (by simp))
    exact ⟨q1, fun b hb => by have := q2 b hb; omega⟩
   ·split
    ·rename_i h
     have hk := xx_ h
     obtain ⟨q1, q2⟩ := s_as w hw n (k + 1) (.mk 2 0 (w.getD k []) []) (m8_ (rx_ hw _))
     exact ⟨q1, fun b hb => by have := q2 b hb; omega⟩
    ·split
     ·have q := a4 (k + 1) (d - 1)
      split
      ·exact ⟨q.1, fun b hb => by simp at hb⟩
      ·rename_i b0 hb0
       have q3 := q.2 b0 hb0
       split
       ·rename_i h41
        have hin : b0 < w.length := hm_ (by rw [h41]; simp)
        obtain ⟨r1, r2⟩ := s_as w hw n (b0 + 1) _ q.1
        exact ⟨r1, fun b hb => by have := r2 b hb; omega⟩
       ·exact ⟨q.1, fun b hb => by simp at hb⟩
     ·exact ⟨ahy_, fun b hb => by simp at hb⟩
  ·unfold sLp
   split
   ·exact a1 k d
   ·have q := a2 k (t + 1) d
    obtain ⟨r1, r2⟩ := a3 t d _ (sLp n w k (t + 1) d).2 q.1
    refine ⟨r1, fun b hb => ?_⟩
    obtain ⟨k0, e0, h0, h1⟩ := r2 b hb
    have := q.2 k0 e0
    omega
  ·cases o with
   | none => exact ⟨by simp only [em_]; exact h, fun b q => by simp [em_] at q⟩
   | some k =>
    unfold em_
    split
    ·rename_i ht
     have q := a2 (k + 1) (t + 1) d
     obtain ⟨r1, r2⟩ := a3 t d (.mk 3 0 (w.getD k []) [e, (sLp n w (k + 1) (t + 1) d).1]) (sLp n w (k + 1) (t + 1) d).2 (v8_ (rx_ hw _) h q.1)
     refine ⟨r1, fun b hb => ?_⟩
     obtain ⟨k0, e0, h0, h1⟩ := r2 b hb
     have := q.2 k0 e0
     exact ⟨k, rfl, by omega, by omega⟩
    ·exact ⟨h, fun b hb => by simp at hb; exact ⟨k, rfl, by omega, by omega⟩⟩
  ·unfold sL1
   have q := a2 k 2 d
   split
   ·exact ⟨q.1, fun b hb => by simp at hb⟩
   ·rename_i b0 hb0
    have q3 := q.2 b0 hb0
    split
    ·have r := a2 (b0 + 1) 2 d
     refine ⟨v8_ (by simp) q.1 r.1, fun b hb => ?_⟩
     have := r.2 b hb; omega
    ·exact ⟨q.1, fun b hb => by simp at hb; omega⟩
def oN : Option Nat → Int
 | none => -1
 | some b => b
end
section
set_option maxRecDepth 100000
set_option maxHeartbeats 8000000
def atI (w : List Str) (at' : Int) : Str := if 0 ≤ at' then w.getD at'.toNat [] else []
theorem be_ (w : List Str) (k : Nat) : atI w (k : Int) = w.getD k [] := by unfold atI; rw [if_pos (by omega), Int.toNat_natCast]
theorem j8_ (w : List Str) (i : Int) : ACall En 110 [.sl false (bm_ w), .i .i64 i] [] [.s (atI w i)] [] := by
 refine ah_ (fn := Tryz.f110) [] Tryz.func110 rfl rfl (by simp) fun C => ?_
 rw [ar_]
 simp only [Tryz.ntmps110, List.length_cons, List.length_nil, Nat.reduceAdd, Nat.reduceSub, List.replicate_succ, List.replicate_zero, List.cons_append, List.nil_append, bd_]
 refine .seq (.rgn [] (by simp only [go_sem, seval, ab_, aa_]; rfl) ?_ ?_)
 ·(first | trivial | (simp; done) | (rw [Bool.and_eq_true] at h12; exact ⟨of_decide_eq_true h12.1, of_decide_eq_true h12.2⟩))
 refine .seq (.seq (.rgn [] (by simp only [go_sem, seval, ab_, aa_]; rfl) ?_ ?_))
 ·(first | trivial | (simp; done) | (rw [Bool.and_eq_true] at h12; exact ⟨of_decide_eq_true h12.1, of_decide_eq_true h12.2⟩))
 refine .condB (by simp only [go_sem, seval, ab_, aa_]; rfl) (by simp only [go_sem, seval, ab_, aa_]) (fun h12 => ?_) (fun h12 => ?_)
 ·refine .seq (.rgn [] (by simp only [go_sem, seval, ab_, aa_, co_ (show i.toNat < w.length by simp only [Bool.and_eq_true, decide_eq_true_eq] at h12; omega)]; rfl) ?_ ?_)
  ·(first | trivial | (simp; done) | (rw [Bool.and_eq_true] at h12; exact ⟨of_decide_eq_true h12.1, of_decide_eq_true h12.2⟩))
  refine .ret ⟨.inr rfl, ?_⟩
  exact Out.plain (by simp only [Tryz.results110]; rfl) (by simp only [aq_, a8_, go_sem, seval, ab_, aa_] <;> (split <;> rfl)) (by simp only [a7_, go_sem, seval, ab_, aa_] <;> (rw [Bool.and_eq_true] at h12; unfold atI; rw [if_pos (of_decide_eq_true h12.1)])) (by simp only [go_sem, seval, ab_, aa_])
 ·refine .skip (.seq (.rgn [] (by simp only [go_sem, seval, ab_, aa_]; rfl) ?_ ?_))
  ·(first | trivial | (simp; done) | (rw [Bool.and_eq_true] at h12; exact ⟨of_decide_eq_true h12.1, of_decide_eq_true h12.2⟩))
  refine .ret ⟨.inr rfl, ?_⟩
  exact Out.plain (by simp only [Tryz.results110]; rfl) (by simp only [aq_, a8_, go_sem, seval, ab_, aa_] <;> (split <;> rfl)) (by simp only [a7_, go_sem, seval, ab_, aa_] <;> (unfold atI; split; (rename_i h0; rw [decide_eq_true h0, Bool.true_and] at h12; have h1 := of_decide_eq_false h12; rw [List.getD_eq_getElem?_getD, List.getElem?_eq_none (by omega)]; rfl); rfl)) (by simp only [go_sem, seval, ab_, aa_])
def v9_ (w : List Str) (n : Nat) : Prop := ∀ (k : Nat) (d : Int), 0 ≤ d → d ≤ 5 → k ≤ w.length + 1 → 10 * (w.length - k) + 5 ≤ n → ACall En 232 [.sl false (bm_ w), .i .i64 k, .i .i64 d] [] [.ag (eC (ea_ n w k d).1), .i .i64 (oN (ea_ n w k d).2)] []
def LpOk (w : List Str) (n : Nat) : Prop := ∀ (k t : Nat) (d : Int), 0 ≤ d → d ≤ 5 → 2 ≤ t → t ≤ 4 → k ≤ w.length + 1 → 10 * (w.length - k) + 10 - t ≤ n → ACall En 205 [.sl false (bm_ w), .i .i64 k, .i .i64 t, .i .i64 d] [] [.ag (eC (sLp n w k t d).1), .i .i64 (oN (sLp n w k t d).2)] []
def L1Ok (w : List Str) (n : Nat) : Prop := ∀ (k : Nat) (d : Int), 0 ≤ d → d ≤ 5 → k ≤ w.length + 1 → 10 * (w.length - k) + 9 ≤ n → ACall En 166 [.sl false (bm_ w), .i .i64 k, .i .i64 d] [] [.ag (eC (sL1 n w k d).1), .i .i64 (oN (sL1 n w k d).2)] []
theorem hb_ (j : Nat) (h : j ≤ 4000000) : IntKind.i64.wrap (j : Int) = (j : Int) := bc_ (by omega) (by omega)
theorem hv_ {w : List Str} {o : Option Nat} (h : (decide (oN o < 0) || !(atI w (oN o) == [41])) = false) : ∃ b, o = some b ∧ w.getD b [] = [41] := by
 cases o with
 | none => simp [oN] at h
 | some b =>
  refine ⟨b, rfl, ?_⟩
  simp only [oN, be_, Bool.or_eq_false_iff, Bool.not_eq_false', beq_iff_eq] at h
  exact h.2
theorem ad9_ {w : List Str} {o : Option Nat} (h : (decide (oN o < 0) || !(atI w (oN o) == [41])) = true) : ¬ ∃ b, o = some b ∧ w.getD b [] = [41] := by
 rintro ⟨b, rfl, e⟩
 have h' : (decide ((b : Int) < 0) || !(atI w (b : Int) == [41])) = true := h
 rw [be_, e, decide_eq_false (by omega)] at h'
 exact absurd h' (by decide)
theorem ahp_ {w : List Str} {j k : Nat} {e : E} (h : w.getD k [] = wAs) (h2 : ew_ (w.getD (k + 1) []) = true) : sAs (j + 1) w k e = sAs j w (k + 2) (.mk 4 0 (w.getD (k + 1) []) [e]) := by rw [sAs, if_pos h, if_pos h2]
theorem ad3_ {w : List Str} {j k : Nat} {e : E} (h : w.getD k [] = wAs) (h2 : ew_ (w.getD (k + 1) []) = false) : sAs (j + 1) w k e = (e, none) := by rw [sAs, if_pos h, if_neg (by rw [h2]; decide)]
theorem agw_ {w : List Str} {j k : Nat} {e : E} (h : w.getD k [] ≠ wAs) : sAs (j + 1) w k e = (e, some k) := by rw [sAs, if_neg h]
theorem zl_ {n : Nat} {w : List Str} {k : Nat} {d : Int} (h : c2_ (w.getD k []) = false) (h2 : f8_ (w.getD k []) = false) (h3 : ¬ (w.getD k [] = [40] ∧ 0 < d)) : ea_ (n + 1) w k d = (E0, none) := by simp only [ea_, h, h2, Bool.false_eq_true, if_false, if_neg h3]
theorem x8_ {n : Nat} {w : List Str} {k : Nat} {d : Int} (h : c2_ (w.getD k []) = false) (h2 : f8_ (w.getD k []) = false) (h3 : w.getD k [] = [40] ∧ 0 < d) (h4 : ¬ ∃ b, (sL1 n w (k + 1) (d - 1)).2 = some b ∧ w.getD b [] = [41]) : ea_ (n + 1) w k d = ((sL1 n w (k + 1) (d - 1)).1, none) := by
 simp only [ea_, h, h2, Bool.false_eq_true, if_false, if_pos h3]
 cases ho : (sL1 n w (k + 1) (d - 1)).2 with
 | none => rfl
 | some b => dsimp only; rw [if_neg (fun e => h4 ⟨b, ho, e⟩)]
theorem yn_ (w : List Str) (hw : smW w) (hl : w.length ≤ 1000000) (n : Nat) (ih : ∀ j, j < n + 1 → L1Ok w j) : v9_ w (n + 1) := fun k d d0 d5 hk hn => by
 have hW := fun i => rx_ hw i
 have hS : ∀ i, (w.getD i []).length ≤ 281474976710656 := fun i => by
  rcases Nat.lt_or_ge i w.length with q | q
  ·exact hw _ (bo_ (d := []) q)
  ·rw [List.getD_eq_getElem?_getD, List.getElem?_eq_none q]; simp
 have hs := hS k
 have e0 := be_ w k
 have L := fun (h : k < w.length ∧ 0 < d) => ih n (by omega) (k + 1) (d - 1) (by omega) (by omega) (by omega) (by omega)
 have hB := ((ou_ w hw n).2.2.2 (k + 1) (d - 1)).2
 refine ah_ (fn := Tryz.f232) [] Tryz.func232 rfl rfl (by simp) fun C => ?_
 rw [ar_]
 simp only [Tryz.ntmps232, List.length_cons, List.length_nil, Nat.reduceAdd, Nat.reduceSub, List.replicate_succ, List.replicate_zero, List.cons_append, List.nil_append, bd_]
 refine .seq (.rgn [] (by simp only [go_sem, seval, ab_, aa_, e0, a3_, be_]; rfl) ?_ ?_)
 ·first | trivial | simp
 refine .seq (.rgn [a2_ (j8_ w k)] (by simp only [go_sem, seval, ab_, aa_, e0, a3_, be_]; rfl) ?_ ?_)
 ·first | trivial | simp
 refine .seq (.rgn [] (by simp only [go_sem, seval, ab_, aa_, e0, a3_, be_]; rfl) ?_ ?_)
 ·first | trivial | simp
 refine .seq (.rgn [] (by simp only [go_sem, seval, ab_, aa_, e0, a3_, be_, hb_ (k + 1) (by omega), show ((k : Int) + 1) = ((k + 1 : Nat) : Int) from rfl]; rfl) ?_ ?_)
 ·first | trivial | simp
 refine .seqJ (fun p : Nat × E => ⟨[.sl false (bm_ w), .no, .no, .no, .no, .no, .pt 16 4 0 0, .no, .no, .pt 19 4 0 0, .i .i64 p.1, .no, .no, .no, .no, .no, .no, .no, .no, .no, .no, .no, .no, .no, .no, .no, .no, .no, .no, .no, .no, .no, .no, .no, .no, .no, .no, .no, .no, .no, .no, .no, .no, .no, .no, .no, .no, .no, .no, .no, .no, .no, .no, .no, .no, .no, .no, .no, .no, .no, .no, .no, .no, .no, .no, .no, .no, .no, .no, .no, .no, .no, .no, .no, .no, .no, .no, .no, .no, .no, .no, .no, .no, .no, .no, .no, .no], aw_ [(16, ⟨48, 4, [[.i .i64 0, .i .i64 0, .s [], .sl true []]]⟩), (19, ⟨48, 4, [eC p.2]⟩)], us [16, 19]⟩) (fun p : Nat × E => ea_ (n + 1) w k d = sAs n w p.1 p.2 ∧ p.1 ≤ w.length ∧ k + 1 ≤ p.1) ?_ (fun p hJ => ?_)
 ·refine .block (.seq (.rgn [a2_ (w5_ (w.getD k []) hs)] (by simp only [go_sem, seval, ab_, aa_, e0, a3_, be_]; rfl) ?_ ?_))
  ·first | trivial | simp
  refine .condB (by simp only [go_sem, seval, ab_, aa_, e0, a3_, be_]; rfl) (by simp only [go_sem, seval, ab_, aa_, e0, a3_, be_]) (fun h22 => ?_) (fun h22 => ?_)
  ·refine .seq (.rgn [a2_ (uv_ (w.getD k []) hs)] (by simp only [go_sem, seval, ab_, aa_, e0, a3_, be_]; rfl) ?_ ?_)
   ·first | trivial | simp
   refine .rgn [] (by simp only [go_sem, seval, ab_, aa_, e0, a3_, be_, (tj_ (w.getD k [])).2 (by simpa using h22)]; rfl) ?_ ?_
   ·first | trivial | simp
   refine Exists.intro ((k + 1, .mk 1 (b8_ (w.getD k [])) [] [])) ⟨?_, ?_⟩
   ·first | exact ⟨ji_ h22, sh_ h22, Nat.le_refl _⟩ | exact ⟨ie_ h22 h32, xx_ h32, Nat.le_refl _⟩ | (obtain ⟨b, hb1, hb2⟩ := hv_ h59; rw [Bool.and_eq_true] at h37; have hbl := hB b hb1; have hin : b < w.length := hm_ (by rw [hb2]; simp); exact ⟨by dsimp only; rw [hb1]; show ea_ (n + 1) w k d = sAs n w (b + 1) (sL1 n w (k + 1) (d - 1)).1; exact jf_ (beq_iff_eq.1 h37.1) (of_decide_eq_true h37.2) (show sL1 n w (k + 1) (d - 1) = ((sL1 n w (k + 1) (d - 1)).1, some b) by rw [← hb1]) hb2, by dsimp only; rw [hb1]; exact hin, by dsimp only; rw [hb1]; show k + 1 ≤ b + 1; omega⟩)
   refine Can.trans (Can.leAt 19 ([[.i .i64 1, .i .i64 (b8_ (w.getD k [])), .s [], .sl false []]]) (by simp only [go_sem, seval, ab_, aa_, e0, a3_, be_] <;> rfl) (by simp only [go_sem, seval, ab_, aa_, e0, a3_, be_, ler, les, leV] <;> (first | trivial | simp)) (by simp only [go_sem, seval, ab_, aa_, e0, a3_, be_] <;> rfl)) ?_
   exact Can.weak (Weak.lit (by simp only [go_sem, seval, ab_, aa_, e0, a3_, be_, an_, leV, al_, am_, V.inn, us, true_or, or_true] <;> (first | rfl | (obtain ⟨b, hb1, hb2⟩ := hv_ h59; rw [hb1]; have hbl := hB b hb1; exact hb_ (b + 1) (by omega)))) (by simp only [go_sem, seval, ab_, aa_, e0, a3_, be_, an_, leV, al_, am_, V.inn, us, true_or, or_true]) (by simp only [go_sem, seval, ab_, aa_, e0, a3_, be_, an_, leV, al_, am_, V.inn, us, true_or, or_true] <;> ((try rfl))))
  ·refine .seq (.rgn [a2_ (pb_ (w.getD k []) (by omega))] (by simp only [go_sem, seval, ab_, aa_, e0, a3_, be_]; rfl) ?_ ?_)
   ·first | trivial | simp
   refine .condB (by simp only [go_sem, seval, ab_, aa_, e0, a3_, be_]; rfl) (by simp only [go_sem, seval, ab_, aa_, e0, a3_, be_]) (fun h32 => ?_) (fun h32 => ?_)
   ·refine .rgn [] (by simp only [go_sem, seval, ab_, aa_, e0, a3_, be_]; rfl) ?_ ?_
    ·first | trivial | simp
    refine Exists.intro ((k + 1, .mk 2 0 (w.getD k []) [])) ⟨?_, ?_⟩
    ·first | exact ⟨ji_ h22, sh_ h22, Nat.le_refl _⟩ | exact ⟨ie_ h22 h32, xx_ h32, Nat.le_refl _⟩ | (obtain ⟨b, hb1, hb2⟩ := hv_ h59; rw [Bool.and_eq_true] at h37; have hbl := hB b hb1; have hin : b < w.length := hm_ (by rw [hb2]; simp); exact ⟨by dsimp only; rw [hb1]; show ea_ (n + 1) w k d = sAs n w (b + 1) (sL1 n w (k + 1) (d - 1)).1; exact jf_ (beq_iff_eq.1 h37.1) (of_decide_eq_true h37.2) (show sL1 n w (k + 1) (d - 1) = ((sL1 n w (k + 1) (d - 1)).1, some b) by rw [← hb1]) hb2, by dsimp only; rw [hb1]; exact hin, by dsimp only; rw [hb1]; show k + 1 ≤ b + 1; omega⟩)
    refine Can.trans (Can.leAt 19 ([[.i .i64 2, .i .i64 0, .s (w.getD k []), .sl false []]]) (by simp only [go_sem, seval, ab_, aa_, e0, a3_, be_] <;> rfl) (by simp only [go_sem, seval, ab_, aa_, e0, a3_, be_, ler, les, leV] <;> (first | trivial | simp)) (by simp only [go_sem, seval, ab_, aa_, e0, a3_, be_] <;> rfl)) ?_
    exact Can.weak (Weak.lit (by simp only [go_sem, seval, ab_, aa_, e0, a3_, be_, an_, leV, al_, am_, V.inn, us, true_or, or_true] <;> (first | rfl | (obtain ⟨b, hb1, hb2⟩ := hv_ h59; rw [hb1]; have hbl := hB b hb1; exact hb_ (b + 1) (by omega)))) (by simp only [go_sem, seval, ab_, aa_, e0, a3_, be_, an_, leV, al_, am_, V.inn, us, true_or, or_true]) (by simp only [go_sem, seval, ab_, aa_, e0, a3_, be_, an_, leV, al_, am_, V.inn, us, true_or, or_true] <;> ((try rfl))))
   ·refine .seq (.rgn [] (by simp only [go_sem, seval, ab_, aa_, e0, a3_, be_]; rfl) ?_ ?_)
    ·first | trivial | simp
    refine .condB (by simp only [go_sem, seval, ab_, aa_, e0, a3_, be_]; rfl) (by simp only [go_sem, seval, ab_, aa_, e0, a3_, be_]) (fun h37 => ?_) (fun h37 => ?_)
    ·refine .seq (.rgn [c1_ (k < w.length ∧ 0 < d) L] (by simp only [go_sem, seval, ab_, aa_, e0, a3_, be_, bc_ (show -9223372036854775808 ≤ d - 1 by omega) (by omega)]; rfl) ?_ ?_)
     ·(rw [Bool.and_eq_true] at h37; have hin : k < w.length := hm_ (by rw [beq_iff_eq.1 h37.1]; simp); first | exact ⟨hin, of_decide_eq_true h37.2⟩ | (refine ⟨?_, hin, of_decide_eq_true h37.2⟩; first | rfl | exact hb_ _ (by omega)))
     refine .seq (.seq (.rgn [a2_ (j8_ w (oN (sL1 n w (k + 1) (d - 1)).2))] (by simp only [go_sem, seval, ab_, aa_, e0, a3_, be_]; rfl) ?_ ?_))
     ·first | trivial | simp
     refine .condB (by simp only [go_sem, seval, ab_, aa_, e0, a3_, be_]; rfl) (by simp only [go_sem, seval, ab_, aa_, e0, a3_, be_]) (fun h59 => ?_) (fun h59 => ?_)
     ·refine .seq (.rgn [] (by simp only [go_sem, seval, ab_, aa_, e0, a3_, be_]; rfl) ?_ ?_)
      ·first | trivial | simp
      refine .ret ⟨.inr rfl, ?_⟩
      exact Out.plainL (by simp only [Tryz.results232]; rfl) (by simp only [aq_, a8_, go_sem, seval, ab_, aa_, e0, a3_, be_] <;> (split <;> rfl)) (by simp only [a7_, go_sem, seval, ab_, aa_, e0, a3_, be_] <;> (rw [Bool.and_eq_true] at h37; rw [x8_ h22 h32 ⟨beq_iff_eq.1 h37.1, of_decide_eq_true h37.2⟩ (ad9_ h59)]; exact ⟨⟨rfl, rfl, rfl, ba_ _⟩, rfl⟩)) (by simp only [go_sem, seval, ab_, aa_, e0, a3_, be_])
     ·refine .skip (.seq (.rgn [] (by simp only [go_sem, seval, ab_, aa_, e0, a3_, be_]; rfl) ?_ ?_))
      ·first | trivial | simp
      refine .rgn [] (by simp only [go_sem, seval, ab_, aa_, e0, a3_, be_]; rfl) ?_ ?_
      ·first | trivial | simp
      refine Exists.intro (((sL1 n w (k + 1) (d - 1)).2.getD 0 + 1, (sL1 n w (k + 1) (d - 1)).1)) ⟨?_, ?_⟩
      ·first | exact ⟨ji_ h22, sh_ h22, Nat.le_refl _⟩ | exact ⟨ie_ h22 h32, xx_ h32, Nat.le_refl _⟩ | (obtain ⟨b, hb1, hb2⟩ := hv_ h59; rw [Bool.and_eq_true] at h37; have hbl := hB b hb1; have hin : b < w.length := hm_ (by rw [hb2]; simp); exact ⟨by dsimp only; rw [hb1]; show ea_ (n + 1) w k d = sAs n w (b + 1) (sL1 n w (k + 1) (d - 1)).1; exact jf_ (beq_iff_eq.1 h37.1) (of_decide_eq_true h37.2) (show sL1 n w (k + 1) (d - 1) = ((sL1 n w (k + 1) (d - 1)).1, some b) by rw [← hb1]) hb2, by dsimp only; rw [hb1]; exact hin, by dsimp only; rw [hb1]; show k + 1 ≤ b + 1; omega⟩)
      exact Can.weak (Weak.lit (by simp only [go_sem, seval, ab_, aa_, e0, a3_, be_, an_, leV, al_, am_, V.inn, us, true_or, or_true] <;> (first | rfl | (obtain ⟨b, hb1, hb2⟩ := hv_ h59; rw [hb1]; have hbl := hB b hb1; exact hb_ (b + 1) (by omega)))) (by simp only [go_sem, seval, ab_, aa_, e0, a3_, be_, an_, leV, al_, am_, V.inn, us, true_or, or_true]) (by simp only [go_sem, seval, ab_, aa_, e0, a3_, be_, an_, leV, al_, am_, V.inn, us, true_or, or_true] <;> ((try rfl))))
    ·refine .seq (.rgn [] (by simp only [go_sem, seval, ab_, aa_, e0, a3_, be_]; rfl) ?_ ?_)
     ·first | trivial | simp
     refine .ret ⟨.inr rfl, ?_⟩
     exact Out.plainL (by simp only [Tryz.results232]; rfl) (by simp only [aq_, a8_, go_sem, seval, ab_, aa_, e0, a3_, be_] <;> (split <;> rfl)) (by simp only [a7_, go_sem, seval, ab_, aa_, e0, a3_, be_] <;> (rw [zl_ h22 h32 (fun e => by rw [e.1, decide_eq_true (show d > 0 from e.2)] at h37; simp at h37)]; exact ⟨⟨rfl, rfl, rfl, ba_ _⟩, rfl⟩)) (by simp only [go_sem, seval, ab_, aa_, e0, a3_, be_])
 refine .seq (.block (.loopK (fun q : Nat × Nat × E => ⟨[.sl false (bm_ w), .no, .no, .no, .no, .no, .pt 16 4 0 0, .no, .no, .pt 19 4 0 0, .i .i64 q.2.1, .no, .no, .no, .no, .no, .no, .no, .no, .no, .no, .no, .no, .no, .no, .no, .no, .no, .no, .no, .no, .no, .no, .no, .no, .no, .no, .no, .no, .no, .no, .no, .no, .no, .no, .no, .no, .no, .no, .no, .no, .no, .no, .no, .no, .no, .no, .no, .no, .no, .no, .no, .no, .no, .no, .no, .no, .no, .no, .no, .no, .no, .no, .no, .no, .no, .no, .no, .no, .no, .no, .no, .no, .no, .no, .no, .no], aw_ [(16, ⟨48, 4, [[.i .i64 0, .i .i64 0, .s [], .sl true []]]⟩), (19, ⟨48, 4, [eC q.2.2]⟩)], us [16, 19]⟩) (fun q : Nat × Nat × E => ea_ (n + 1) w k d = sAs q.1 w q.2.1 q.2.2 ∧ q.2.1 ≤ w.length ∧ 10 * (w.length - q.2.1) + 1 ≤ q.1) (fun q : Nat × Nat × E => w.length - q.2.1) ((n, p.1, p.2)) ?_ ?_ (fun q hI => ?_)))
 ·exact ⟨hJ.1, hJ.2.1, by dsimp only; omega⟩
 ·exact Can.weak (Weak.lit (by simp only [go_sem, seval, ab_, aa_, e0, a3_, be_, an_, leV, al_, am_, V.inn, us, true_or, or_true] <;> ((try simp))) (by simp only [go_sem, seval, ab_, aa_, e0, a3_, be_, an_, leV, al_, am_, V.inn, us, true_or, or_true]) (by simp only [go_sem, seval, ab_, aa_, e0, a3_, be_, an_, leV, al_, am_, V.inn, us, true_or, or_true] <;> ((try simp))))
 refine .seq (.seq (.rgn [a2_ (j8_ w (q.2.1 : Int))] (by simp only [go_sem, seval, ab_, aa_, e0, a3_, be_]; rfl) ?_ ?_))
 ·first | trivial | simp
 refine .condB (by simp only [go_sem, seval, ab_, aa_, e0, a3_, be_]; rfl) (by simp only [go_sem, seval, ab_, aa_, e0, a3_, be_]) (fun h67 => ?_) (fun h67 => ?_)
 ·refine .skip (.block (.seq (.seq (.rgn [a2_ (j8_ w ((q.2.1 + 1 : Nat) : Int)), a2_ (ko_ (w.getD (q.2.1 + 1) []))] (by simp only [go_sem, seval, ab_, aa_, e0, a3_, be_, hb_ (q.2.1 + 1) (by omega), show ((q.2.1 : Int) + 1) = ((q.2.1 + 1 : Nat) : Int) from rfl]; rfl) ?_ ?_))))
  ·first | trivial | simp
  refine .condB (by simp only [go_sem, seval, ab_, aa_, e0, a3_, be_]; rfl) (by simp only [go_sem, seval, ab_, aa_, e0, a3_, be_]) (fun h73 => ?_) (fun h73 => ?_)
  ·refine .seq (.rgn [] (by simp only [go_sem, seval, ab_, aa_, e0, a3_, be_]; rfl) ?_ ?_)
   ·first | trivial | simp
   refine .ret ⟨.inr rfl, ?_⟩
   exact Out.plainL (by simp only [Tryz.results232]; rfl) (by simp only [aq_, a8_, go_sem, seval, ab_, aa_, e0, a3_, be_] <;> (split <;> rfl)) (by simp only [a7_, go_sem, seval, ab_, aa_, e0, a3_, be_] <;> (obtain ⟨i, hi⟩ : ∃ i, q.1 = i + 1 := ⟨q.1 - 1, by omega⟩; rw [hI.1, hi, ad3_ (beq_iff_eq.1 h67) (by simpa only [Bool.not_eq_true'] using h73)]; exact ⟨⟨rfl, rfl, rfl, ba_ _⟩, rfl⟩)) (by simp only [go_sem, seval, ab_, aa_, e0, a3_, be_])
  ·refine .skip (.seq (.rgnD [] enM (by simp only [go_sem, seval, ab_, aa_, e0, a3_, be_, hb_ (q.2.1 + 1) (by omega), show ((q.2.1 : Int) + 1) = ((q.2.1 + 1 : Nat) : Int) from rfl, co_ (show q.2.1 + 1 < w.length from o7_ (by simpa using h73))]; rfl) (by rfl) ?_ ?_))
   ·(have ht := o7_ (w := w) (k := q.2.1 + 1) (by simpa only [Bool.not_eq_false'] using h73); simp [cc_]; omega)
   refine .rgn [] (by simp only [go_sem, seval, ab_, aa_, e0, a3_, be_]; rfl) ?_ ?_
   ·first | trivial | simp
   refine Exists.intro ((q.1 - 1, q.2.1 + 2, .mk 4 0 (w.getD (q.2.1 + 1) []) [q.2.2])) ⟨?_, ?_, ?_⟩
   ·have ht := o7_ (w := w) (k := q.2.1 + 1) (by simpa only [Bool.not_eq_false'] using h73); obtain ⟨i, hi⟩ : ∃ i, q.1 = i + 1 := ⟨q.1 - 1, by omega⟩; exact ⟨by rw [hI.1, hi]; exact ahp_ (beq_iff_eq.1 h67) (by simpa only [Bool.not_eq_false'] using h73), by dsimp only; omega, by dsimp only; omega⟩
   ·have ht := o7_ (w := w) (k := q.2.1 + 1) (by simpa only [Bool.not_eq_false'] using h73); dsimp only; omega
   refine Can.trans (Can.leAt 19 ([[.i .i64 4, .i .i64 0, .s (w.getD (q.2.1 + 1) []), .sl false [eC q.2.2]]]) (by simp only [go_sem, seval, ab_, aa_, e0, a3_, be_] <;> rfl) (by simp only [go_sem, seval, ab_, aa_, e0, a3_, be_, ler, les, leV] <;> (first | trivial | simp)) (by simp only [go_sem, seval, ab_, aa_, e0, a3_, be_] <;> rfl)) ?_
   exact Can.weak (Weak.lit (by simp only [go_sem, seval, ab_, aa_, e0, a3_, be_, an_, leV, al_, am_, V.inn, us, true_or, or_true] <;> (exact hb_ (q.2.1 + 2) (by omega))) (by simp only [go_sem, seval, ab_, aa_, e0, a3_, be_, an_, leV, al_, am_, V.inn, us, true_or, or_true]) (by simp only [go_sem, seval, ab_, aa_, e0, a3_, be_, an_, leV, al_, am_, V.inn, us, true_or, or_true] <;> (simp [E.kind, E.n, E.s, E.kids, eR, a3_])))
 ·refine .exit (.seq (.rgn [] (by simp only [go_sem, seval, ab_, aa_, e0, a3_, be_]; rfl) ?_ ?_))
  ·first | trivial | simp
  refine .ret ⟨.inr rfl, ?_⟩
  exact Out.plainL (by simp only [Tryz.results232]; rfl) (by simp only [aq_, a8_, go_sem, seval, ab_, aa_, e0, a3_, be_] <;> (split <;> rfl)) (by simp only [a7_, go_sem, seval, ab_, aa_, e0, a3_, be_] <;> (obtain ⟨i, hi⟩ : ∃ i, q.1 = i + 1 := ⟨q.1 - 1, by omega⟩; rw [hI.1, hi, agw_ (fun e => by rw [e] at h67; simp [wAs] at h67)]; exact ⟨⟨rfl, rfl, rfl, ba_ _⟩, rfl⟩)) (by simp only [go_sem, seval, ab_, aa_, e0, a3_, be_])
end
section
set_option maxRecDepth 100000
set_option maxHeartbeats 8000000
def nx (o : Option Nat) : Nat := o.getD 0
theorem kk_ {w : List Str} {o : Option Nat} {t : Nat} (ht : 1 ≤ t) (h : ((decide (oN o ≥ 0) && lvl (.mk 3 0 (atI w (oN o)) []) == (t : Int)) && fp_ (atI w (oN o))) = true) : ∃ b, o = some b ∧ b < w.length ∧ a4_ (w.getD b []) = t := by
 cases o with
 | none => exact absurd h (by simp [oN])
 | some b =>
  have h' : ((decide ((b : Int) ≥ 0) && lvl (.mk 3 0 (atI w (b : Int)) []) == (t : Int)) && fp_ (atI w (b : Int))) = true := h
  rw [be_, Bool.and_eq_true, Bool.and_eq_true, beq_iff_eq] at h'
  have hb : b < w.length := hm_ fun e => by rw [e] at h'; exact absurd h'.2 (by decide)
  have := pf_ (e := .mk 3 0 (w.getD b []) []) rfl h'.2
  exact ⟨b, rfl, hb, this.symm.trans h'.1.2⟩
theorem ahm_ {w : List Str} {o : Option Nat} {t j : Nat} {d : Int} {e : E} (ht : 1 ≤ t) (h : ((decide (oN o ≥ 0) && lvl (.mk 3 0 (atI w (oN o)) []) == (t : Int)) && fp_ (atI w (oN o))) = false) : em_ (j + 1) w t d e o = (e, o) := by
 cases o with
 | none => simp only [em_]
 | some b =>
  refine ep_ fun q => ?_
  have h' : ((decide ((b : Int) ≥ 0) && lvl (.mk 3 0 (atI w (b : Int)) []) == (t : Int)) && fp_ (atI w (b : Int))) = false := h
  rw [be_] at h'
  have ho : fp_ (w.getD b []) = true := by
   rw [← q3_]; simp only [decide_eq_true_eq]; omega
  have hl := pf_ (e := .mk 3 0 (w.getD b []) []) rfl ho
  have hl2 : lvl (.mk 3 0 (w.getD b []) []) = (t : Int) := hl.trans q
  rw [hl2, ho, decide_eq_true (show ((b : Int) ≥ 0) by omega)] at h'
  simp at h'
theorem ac5_ {n : Nat} {w : List Str} {t : Nat} {d : Int} {e : E} {b : Nat} (h : a4_ (w.getD b []) = t) : em_ (n + 1) w t d e (some b) = em_ n w t d (.mk 3 0 (w.getD b []) [e, (sLp n w (b + 1) (t + 1) d).1]) (sLp n w (b + 1) (t + 1) d).2 := by rw [em_, if_pos h]
def mz (L : Nat) : Option Nat → Nat
 | none => 0
 | some b => L + 1 - b
def LpI (w : List Str) (t : Nat) (d : Int) (n : Nat) (r : E × Option Nat) (q : Nat × E × Option Nat) : Prop :=
 r = em_ q.1 w t d q.2.1 q.2.2 ∧ 1 ≤ q.1 ∧ q.1 ≤ n ∧ t < 4 ∧ ∀ b, q.2.2 = some b → b ≤ w.length ∧ 10 * (w.length - b) + 1 ≤ q.1
theorem ads_ {w : List Str} (hw : smW w) {n k t : Nat} {d : Int} (t4 : t < 4) (hn : 10 * (w.length - k) + 10 - t ≤ n + 1) : LpI w t d n (sLp (n + 1) w k t d) (n, (sLp n w k (t + 1) d).1, (sLp n w k (t + 1) d).2) := by
 refine ⟨?_, by omega, Nat.le_refl _, t4, fun b hb => ?_⟩
 ·dsimp only; rw [sLp, if_neg (by omega)]
 ·have := ((ou_ w hw n).2.1 k (t + 1) d).2 b hb
  dsimp only; omega
theorem de_ {w : List Str} (hw : smW w) {n t : Nat} {d : Int} {r : E × Option Nat} {q : Nat × E × Option Nat} (h : LpI w t d n r q) (ht : 1 ≤ t) (hc : ((decide (oN q.2.2 ≥ 0) && lvl (.mk 3 0 (atI w (oN q.2.2)) []) == (t : Int)) && fp_ (atI w (oN q.2.2))) = true) :
  LpI w t d n r (q.1 - 1, .mk 3 0 (w.getD (nx q.2.2) []) [q.2.1, (sLp (q.1 - 1) w (nx q.2.2 + 1) (t + 1) d).1], (sLp (q.1 - 1) w (nx q.2.2 + 1) (t + 1) d).2) ∧ mz w.length (sLp (q.1 - 1) w (nx q.2.2 + 1) (t + 1) d).2 < mz w.length q.2.2 ∧
  (q.1 ≤ n ∧ nx q.2.2 < w.length ∧ 10 * (w.length - nx q.2.2) + 1 ≤ q.1 ∧ t < 4) := by
 obtain ⟨b, hb, hin, hti⟩ := kk_ ht hc
 obtain ⟨h1, h2, h3, h4, h5⟩ := h
 have hq := h5 b hb
 have hn : nx q.2.2 = b := by rw [hb]; rfl
 rw [hn]
 obtain ⟨i, hi⟩ : ∃ i, q.1 = i + 1 := ⟨q.1 - 1, by omega⟩
 have hi' : q.1 - 1 = i := by omega
 have hs := fun b' hb' => ((ou_ w hw (q.1 - 1)).2.1 (b + 1) (t + 1) d).2 b' hb'
 refine ⟨⟨?_, ?_, ?_, h4, fun b' hb' => ?_⟩, ?_, h3, hin, hq.2, h4⟩
 ·rw [h1, hb, hi, ac5_ hti]; rfl
 ·dsimp only; omega
 ·dsimp only; omega
 ·have := hs b' hb'; dsimp only; omega
 ·cases ho : (sLp (q.1 - 1) w (b + 1) (t + 1) d).2 with
  | none => rw [hb]; simp only [mz]; omega
  | some b' => have := hs b' ho; rw [hb]; simp only [mz]; omega
theorem ae5_ {w : List Str} {n t : Nat} {d : Int} {r : E × Option Nat} {q : Nat × E × Option Nat} (h : LpI w t d n r q) (ht : 1 ≤ t) (hc : ((decide (oN q.2.2 ≥ 0) && lvl (.mk 3 0 (atI w (oN q.2.2)) []) == (t : Int)) && fp_ (atI w (oN q.2.2))) = false) : r = q.2 := by
 obtain ⟨h1, h2, -⟩ := h
 obtain ⟨i, hi⟩ : ∃ i, q.1 = i + 1 := ⟨q.1 - 1, by omega⟩
 rw [h1, hi, ahm_ ht hc]
theorem yx_ (w : List Str) (hw : smW w) (hl : w.length ≤ 1000000) (n : Nat) (ihA : ∀ j, j < n + 1 → v9_ w j) (ihL : ∀ j, j < n + 1 → LpOk w j) : LpOk w (n + 1) := fun k t d d0 d5 t2 t4 hk hn => by
 have hB := (ou_ w hw n).2.1
 have A := fun (h : t = 4) => ihA n (by omega) k d d0 d5 hk (by omega)
 have L := fun (h : t < 4) => ihL n (by omega) k (t + 1) d d0 d5 (by omega) (by omega) hk (by omega)
 have L2 := fun (j b : Nat) (h : j ≤ n ∧ b < w.length ∧ 10 * (w.length - b) + 1 ≤ j ∧ t < 4) => ihL (j - 1) (by omega) (b + 1) (t + 1) d d0 d5 (by omega) (by omega) (by omega) (by omega)
 refine ah_ (fn := Tryz.f205) [] Tryz.func205 rfl rfl (by simp) fun C => ?_
 rw [ar_]
 simp only [Tryz.ntmps205, List.length_cons, List.length_nil, Nat.reduceAdd, Nat.reduceSub, List.replicate_succ, List.replicate_zero, List.cons_append, List.nil_append, bd_]
 refine .seq (.rgn [] (by simp only [go_sem, seval, ab_, aa_, a3_]; rfl) ?_ ?_)
 ·(first | trivial | (simp; done) | (have h3 := of_decide_eq_true h15; omega) | (have h3 := of_decide_eq_false h15; omega) | exact ⟨fun h => ⟨h, rfl⟩, fun h => ⟨h, rfl, rfl, rfl, ba_ _⟩⟩ | exact (de_ hw hI (by omega) h47).2.2 | (have h3 := (de_ hw hI (by omega) h47).2.2; exact ⟨⟨by omega, by omega⟩, rfl⟩))
 refine .seq (.seq (.rgn [] (by simp only [go_sem, seval, ab_, aa_, a3_]; rfl) ?_ ?_))
 ·(first | trivial | (simp; done) | (have h3 := of_decide_eq_true h15; omega) | (have h3 := of_decide_eq_false h15; omega) | exact ⟨fun h => ⟨h, rfl⟩, fun h => ⟨h, rfl, rfl, rfl, ba_ _⟩⟩ | exact (de_ hw hI (by omega) h47).2.2 | (have h3 := (de_ hw hI (by omega) h47).2.2; exact ⟨⟨by omega, by omega⟩, rfl⟩))
 refine .condB (by simp only [go_sem, seval, ab_, aa_, a3_]; rfl) (by simp only [go_sem, seval, ab_, aa_, a3_]) (fun h15 => ?_) (fun h15 => ?_)
 ·refine .seq (.rgn [c1_ (t = 4) A] (by simp only [go_sem, seval, ab_, aa_, a3_]; rfl) ?_ ?_)
  ·(first | trivial | (simp; done) | (have h3 := of_decide_eq_true h15; omega) | (have h3 := of_decide_eq_false h15; omega) | exact ⟨fun h => ⟨h, rfl⟩, fun h => ⟨h, rfl, rfl, rfl, ba_ _⟩⟩ | exact (de_ hw hI (by omega) h47).2.2 | (have h3 := (de_ hw hI (by omega) h47).2.2; exact ⟨⟨by omega, by omega⟩, rfl⟩))
  refine .ret ⟨.inr rfl, ?_⟩
  exact Out.plainL (by simp only [Tryz.results205]; rfl) (by simp only [aq_, a8_, go_sem, seval, ab_, aa_, a3_] <;> (split <;> rfl)) (by simp only [a7_, go_sem, seval, ab_, aa_, a3_] <;> (have h3 := of_decide_eq_true h15; rw [sLp, if_pos (by omega)]; exact ⟨⟨rfl, rfl, rfl, ba_ _⟩, rfl⟩)) (by simp only [go_sem, seval, ab_, aa_, a3_])
 ·refine .skip (.seq (.rgn [c1_ (t < 4) L] (by simp only [go_sem, seval, ab_, aa_, a3_, hb_ (t + 1) (by omega), show ((t : Int) + 1) = ((t + 1 : Nat) : Int) from rfl]; rfl) ?_ ?_))
  ·(first | trivial | (simp; done) | (have h3 := of_decide_eq_true h15; omega) | (have h3 := of_decide_eq_false h15; omega) | exact ⟨fun h => ⟨h, rfl⟩, fun h => ⟨h, rfl, rfl, rfl, ba_ _⟩⟩ | exact (de_ hw hI (by omega) h47).2.2 | (have h3 := (de_ hw hI (by omega) h47).2.2; exact ⟨⟨by omega, by omega⟩, rfl⟩))
  refine .seq (.block (.loopK (fun q : Nat × E × Option Nat => ⟨[.sl false (bm_ w), .no, .i .i64 t, .i .i64 d, .no, .no, .no, .no, .pt 18 4 0 0, .no, .pt 20 4 0 0, .i .i64 (oN q.2.2), .no, .no, .no, .no, .no, .no, .no, .no, .no, .no, .no, .no, .no, .no, .no, .no, .no, .no, .no, .no, .no, .no, .no, .no, .no, .no, .no, .no, .no, .no, .no, .no, .no, .no, .no, .no, .no, .no, .no, .no, .no, .no, .no, .no, .no, .no, .no, .no, .no, .no, .no, .no, .no, .no, .no, .no, .no], aw_ [(18, ⟨48, 4, [[.i .i64 0, .i .i64 0, .s [], .sl true []]]⟩), (20, ⟨48, 4, [eC q.2.1]⟩)], us [18, 20]⟩) (fun q : Nat × E × Option Nat => LpI w t d n (sLp (n + 1) w k t d) q) (fun q : Nat × E × Option Nat => mz w.length q.2.2) ((n, (sLp n w k (t + 1) d).1, (sLp n w k (t + 1) d).2)) ?_ ?_ (fun q hI => ?_)))
  ·have h3 := of_decide_eq_false h15; exact ads_ hw (by omega) hn
  ·exact Can.weak (Weak.lit (by simp only [go_sem, seval, ab_, aa_, a3_, an_, leV, al_, am_, V.inn, us, true_or, or_true] <;> ((try simp))) (by simp only [go_sem, seval, ab_, aa_, a3_, an_, leV, al_, am_, V.inn, us, true_or, or_true]) (by simp only [go_sem, seval, ab_, aa_, a3_, an_, leV, al_, am_, V.inn, us, true_or, or_true] <;> ((try simp))))
  refine .seq (.seq (.rgn [a2_ (j8_ w (oN q.2.2)), a2_ (lr_ (.mk 3 0 (atI w (oN q.2.2)) [])), a2_ (j8_ w (oN q.2.2)), a2_ (adi_ (atI w (oN q.2.2)))] (by simp only [go_sem, seval, ab_, aa_, a3_]; rfl) ?_ ?_))
  ·(first | trivial | (simp; done) | (have h3 := of_decide_eq_true h15; omega) | (have h3 := of_decide_eq_false h15; omega) | exact ⟨fun h => ⟨h, rfl⟩, fun h => ⟨h, rfl, rfl, rfl, ba_ _⟩⟩ | exact (de_ hw hI (by omega) h47).2.2 | (have h3 := (de_ hw hI (by omega) h47).2.2; exact ⟨⟨by omega, by omega⟩, rfl⟩))
  refine .condB (by simp only [go_sem, seval, ab_, aa_, a3_]; rfl) (by simp only [go_sem, seval, ab_, aa_, a3_]) (fun h47 => ?_) (fun h47 => ?_)
  ·refine .skip (.block (.seq (.rgn [c1_ (q.1 ≤ n ∧ nx q.2.2 < w.length ∧ 10 * (w.length - nx q.2.2) + 1 ≤ q.1 ∧ t < 4) (L2 q.1 (nx q.2.2))] (by simp only [go_sem, seval, ab_, aa_, a3_, hb_ (t + 1) (by omega), show ((t : Int) + 1) = ((t + 1 : Nat) : Int) from rfl, show oN q.2.2 = (nx q.2.2 : Int) by (obtain ⟨b, hb, _⟩ := kk_ (by omega) h47; rw [hb]; rfl), hb_ (nx q.2.2 + 1) (by (obtain ⟨b, hb, hb2, _⟩ := kk_ (by omega) h47; rw [hb]; show b + 1 ≤ _; omega)), show ((nx q.2.2 : Int) + 1) = ((nx q.2.2 + 1 : Nat) : Int) from rfl]; rfl) ?_ ?_)))
   ·(first | trivial | (simp; done) | (have h3 := of_decide_eq_true h15; omega) | (have h3 := of_decide_eq_false h15; omega) | exact ⟨fun h => ⟨h, rfl⟩, fun h => ⟨h, rfl, rfl, rfl, ba_ _⟩⟩ | exact (de_ hw hI (by omega) h47).2.2 | (have h3 := (de_ hw hI (by omega) h47).2.2; exact ⟨⟨by omega, by omega⟩, rfl⟩))
   refine .seq (.rgnD [] enM (by simp only [go_sem, seval, ab_, aa_, a3_, show oN q.2.2 = (nx q.2.2 : Int) by (obtain ⟨b, hb, _⟩ := kk_ (by omega) h47; rw [hb]; rfl), co_ (show nx q.2.2 < w.length by (obtain ⟨b, hb, hb2, _⟩ := kk_ (by omega) h47; rw [hb]; exact hb2))]; rfl) (by rfl) ?_ ?_)
   ·(first | trivial | (simp; done) | (have h3 := of_decide_eq_true h15; omega) | (have h3 := of_decide_eq_false h15; omega) | exact ⟨fun h => ⟨h, rfl⟩, fun h => ⟨h, rfl, rfl, rfl, ba_ _⟩⟩ | exact (de_ hw hI (by omega) h47).2.2 | (have h3 := (de_ hw hI (by omega) h47).2.2; exact ⟨⟨by omega, by omega⟩, rfl⟩))
   refine .rgn [] (by simp only [go_sem, seval, ab_, aa_, a3_]; rfl) ?_ ?_
   ·(first | trivial | (simp; done) | (have h3 := of_decide_eq_true h15; omega) | (have h3 := of_decide_eq_false h15; omega) | exact ⟨fun h => ⟨h, rfl⟩, fun h => ⟨h, rfl, rfl, rfl, ba_ _⟩⟩ | exact (de_ hw hI (by omega) h47).2.2 | (have h3 := (de_ hw hI (by omega) h47).2.2; exact ⟨⟨by omega, by omega⟩, rfl⟩))
   refine Exists.intro ((q.1 - 1, .mk 3 0 (w.getD (nx q.2.2) []) [q.2.1, (sLp (q.1 - 1) w (nx q.2.2 + 1) (t + 1) d).1], (sLp (q.1 - 1) w (nx q.2.2 + 1) (t + 1) d).2)) ⟨?_, ?_, ?_⟩
   ·exact (de_ hw hI (by omega) h47).1
   ·exact (de_ hw hI (by omega) h47).2.1
   refine Can.trans (Can.leAt 20 ([[.i .i64 3, .i .i64 0, .s (w.getD (nx q.2.2) []), .sl false [eC q.2.1, eC (sLp (q.1 - 1) w (nx q.2.2 + 1) (t + 1) d).1]]]) (by simp only [go_sem, seval, ab_, aa_, a3_] <;> rfl) (by simp only [go_sem, seval, ab_, aa_, a3_, ler, les, leV] <;> (first | trivial | simp)) (by simp only [go_sem, seval, ab_, aa_, a3_] <;> rfl)) ?_
   exact Can.weak (Weak.lit (by simp only [go_sem, seval, ab_, aa_, a3_, an_, leV, al_, am_, V.inn, us, true_or, or_true] <;> (rfl)) (by simp only [go_sem, seval, ab_, aa_, a3_, an_, leV, al_, am_, V.inn, us, true_or, or_true]) (by simp only [go_sem, seval, ab_, aa_, a3_, an_, leV, al_, am_, V.inn, us, true_or, or_true] <;> (simp [E.kind, E.n, E.s, E.kids, eR, a3_])))
  ·refine .exit (.seq (.rgn [] (by simp only [go_sem, seval, ab_, aa_, a3_]; rfl) ?_ ?_))
   ·(first | trivial | (simp; done) | (have h3 := of_decide_eq_true h15; omega) | (have h3 := of_decide_eq_false h15; omega) | exact ⟨fun h => ⟨h, rfl⟩, fun h => ⟨h, rfl, rfl, rfl, ba_ _⟩⟩ | exact (de_ hw hI (by omega) h47).2.2 | (have h3 := (de_ hw hI (by omega) h47).2.2; exact ⟨⟨by omega, by omega⟩, rfl⟩))
   refine .ret ⟨.inr rfl, ?_⟩
   exact Out.plainL (by simp only [Tryz.results205]; rfl) (by simp only [aq_, a8_, go_sem, seval, ab_, aa_, a3_] <;> (split <;> rfl)) (by simp only [a7_, go_sem, seval, ab_, aa_, a3_] <;> (rw [ae5_ hI (by omega) h47]; exact ⟨⟨rfl, rfl, rfl, ba_ _⟩, rfl⟩)) (by simp only [go_sem, seval, ab_, aa_, a3_])
end
section
set_option maxRecDepth 100000
set_option maxHeartbeats 8000000
theorem dh_ {w : List Str} {o : Option Nat} {c : UInt8} (h : (decide (oN o < 0) || !(atI w (oN o) == [c])) = false) : o = some (nx o) ∧ w.getD (nx o) [] = [c] ∧ nx o < w.length ∧ oN o = (nx o : Int) := by
 cases o with
 | none => exact absurd h (by simp [oN])
 | some b =>
  have h' : (decide ((b : Int) < 0) || !(atI w (b : Int) == [c])) = false := h
  rw [be_, Bool.or_eq_false_iff, Bool.not_eq_false', beq_iff_eq] at h'
  exact ⟨rfl, h'.2, hm_ (by show w.getD b [] ≠ []; rw [h'.2]; simp), rfl⟩
theorem agz_ {n : Nat} {w : List Str} {k : Nat} {d : Int} {b : Nat} (h : (sLp n w k 2 d).2 = some b) (h2 : w.getD b [] = [60]) : sL1 (n + 1) w k d = (.mk 3 0 [60] [(sLp n w k 2 d).1, (sLp n w (b + 1) 2 d).1], (sLp n w (b + 1) 2 d).2) := by rw [sL1, h]; dsimp only; rw [if_pos h2]
theorem ag5_ {n : Nat} {w : List Str} {k : Nat} {d : Int} (h : (decide (oN (sLp n w k 2 d).2 < 0) || !(atI w (oN (sLp n w k 2 d).2) == [60])) = true) : sL1 (n + 1) w k d = sLp n w k 2 d := by
 rw [sL1]
 generalize sLp n w k 2 d = o at *
 obtain ⟨e, o⟩ := o
 cases o with
 | none => rfl
 | some b =>
  have h' : (decide ((b : Int) < 0) || !(atI w (b : Int) == [60])) = true := h
  rw [be_, decide_eq_false (by omega), Bool.false_or, Bool.not_eq_true', beq_eq_false_iff_ne] at h'
  dsimp only; rw [if_neg h']
theorem ub_ (w : List Str) (hw : smW w) (hl : w.length ≤ 1000000) (n : Nat) (ih : ∀ j, j < n + 1 → LpOk w j) : L1Ok w (n + 1) := fun k d d0 d5 hk hn => by
 have A := ih n (by omega) k 2 d d0 d5 (by omega) (by omega) hk (by omega)
 have L := fun (h : nx (sLp n w k 2 d).2 < w.length ∧ k + 1 ≤ nx (sLp n w k 2 d).2) => ih n (by omega) (nx (sLp n w k 2 d).2 + 1) 2 d d0 d5 (by omega) (by omega) (by omega) (by omega)
 have hB := ((ou_ w hw n).2.1 k 2 d).2
 refine ah_ (fn := Tryz.f166) [] Tryz.func166 rfl rfl (by simp) fun C => ?_
 rw [ar_]
 simp only [Tryz.ntmps166, List.length_cons, List.length_nil, Nat.reduceAdd, Nat.reduceSub, List.replicate_succ, List.replicate_zero, List.cons_append, List.nil_append, bd_]
 refine .seq (.rgn [] (by simp only [go_sem, seval, ab_, aa_, a3_]; rfl) ?_ ?_)
 ·(first | trivial | (simp; done) | exact ⟨(dh_ h26).2.2.1, hB _ (dh_ h26).1 |>.1⟩)
 refine .seq (.rgn [a2_ A] (by simp only [go_sem, seval, ab_, aa_, a3_]; rfl) ?_ ?_)
 ·(first | trivial | (simp; done) | exact ⟨(dh_ h26).2.2.1, hB _ (dh_ h26).1 |>.1⟩)
 refine .seq (.seq (.rgn [a2_ (j8_ w (oN (sLp n w k 2 d).2))] (by simp only [go_sem, seval, ab_, aa_, a3_]; rfl) ?_ ?_))
 ·(first | trivial | (simp; done) | exact ⟨(dh_ h26).2.2.1, hB _ (dh_ h26).1 |>.1⟩)
 refine .condB (by simp only [go_sem, seval, ab_, aa_, a3_]; rfl) (by simp only [go_sem, seval, ab_, aa_, a3_]) (fun h26 => ?_) (fun h26 => ?_)
 ·refine .seq (.rgn [] (by simp only [go_sem, seval, ab_, aa_, a3_]; rfl) ?_ ?_)
  ·(first | trivial | (simp; done) | exact ⟨(dh_ h26).2.2.1, hB _ (dh_ h26).1 |>.1⟩)
  refine .ret ⟨.inr rfl, ?_⟩
  exact Out.plainL (by simp only [Tryz.results166]; rfl) (by simp only [aq_, a8_, go_sem, seval, ab_, aa_, a3_] <;> (split <;> rfl)) (by simp only [a7_, go_sem, seval, ab_, aa_, a3_] <;> (rw [ag5_ h26]; exact ⟨⟨rfl, rfl, rfl, ba_ _⟩, rfl⟩)) (by simp only [go_sem, seval, ab_, aa_, a3_])
 ·refine .skip (.seq (.rgn [c1_ (nx (sLp n w k 2 d).2 < w.length ∧ k + 1 ≤ nx (sLp n w k 2 d).2) L] (by simp only [go_sem, seval, ab_, aa_, a3_, (dh_ h26).2.2.2, hb_ (nx (sLp n w k 2 d).2 + 1) (by have := (dh_ h26).2.2.1; omega), show ((nx (sLp n w k 2 d).2 : Int) + 1) = ((nx (sLp n w k 2 d).2 + 1 : Nat) : Int) from rfl]; rfl) ?_ ?_))
  ·(first | trivial | (simp; done) | exact ⟨(dh_ h26).2.2.1, hB _ (dh_ h26).1 |>.1⟩)
  refine .seq (.rgn [] (by simp only [go_sem, seval, ab_, aa_, a3_]; rfl) ?_ ?_)
  ·(first | trivial | (simp; done) | exact ⟨(dh_ h26).2.2.1, hB _ (dh_ h26).1 |>.1⟩)
  refine .ret ⟨.inr rfl, ?_⟩
  exact Out.plainL (by simp only [Tryz.results166]; rfl) (by simp only [aq_, a8_, go_sem, seval, ab_, aa_, a3_] <;> (split <;> rfl)) (by simp only [a7_, go_sem, seval, ab_, aa_, a3_] <;> (rw [agz_ (dh_ h26).1 (dh_ h26).2.1]; simp [E.kind, E.n, E.s, E.kids, eR, a3_, les, leV, ler, ba_])) (by simp only [go_sem, seval, ab_, aa_, a3_])
theorem vk_ (w : List Str) (hw : smW w) (hl : w.length ≤ 1000000) : ∀ n, v9_ w n ∧ LpOk w n ∧ L1Ok w n := fun n => by
 induction n using Nat.strongRecOn with
 | _ n ih =>
  cases n with
  | zero => exact ⟨fun k d _ _ _ hn => absurd hn (by omega), fun k t d _ _ _ _ _ hn => absurd hn (by omega), fun k d _ _ _ hn => absurd hn (by omega)⟩
  | succ n => exact ⟨yn_ w hw hl n (fun j hj => (ih j hj).2.2), yx_ w hw hl n (fun j hj => (ih j hj).1) (fun j hj => (ih j hj).2.1), ub_ w hw hl n (fun j hj => (ih j hj).2.1)⟩
end
section
set_option maxRecDepth 100000
set_option maxHeartbeats 4000000
theorem zn_ (a b : List Str) (ha : a.length ≤ 1000000000000) (hb : b.length ≤ 1000000000000) : ACall En 167 [.sl false (bm_ a), .sl false (bm_ b)] [] [.b (a == b)] [] := by
 refine ah_ (fn := Tryz.f167) [] Tryz.func167 rfl rfl (by simp) fun C => ?_
 rw [ar_]
 simp only [Tryz.ntmps167, List.length_cons, List.length_nil, Nat.reduceAdd, Nat.reduceSub, List.replicate_succ, List.replicate_zero, List.cons_append, List.nil_append, bd_]
 refine .seq (.rgn [] (by simp only [go_sem, seval, ab_, aa_]; rfl) ?_ ?_)
 ·first | trivial | simp
 refine .seq (.seq (.rgn [] (by simp only [go_sem, seval, ab_, aa_]; rfl) ?_ ?_))
 ·first | trivial | simp
 refine .condB (by simp only [go_sem, seval, ab_, aa_]; rfl) (by simp only [go_sem, seval, ab_, aa_]) (fun h10 => ?_) (fun h10 => ?_)
 ·refine .seq (.rgn [] (by simp only [go_sem, seval, ab_, aa_]; rfl) ?_ ?_)
  ·first | trivial | simp
  refine .ret ⟨.inr rfl, ?_⟩
  exact Out.plain (by simp only [Tryz.results167]; rfl) (by simp only [aq_, a8_, go_sem, seval, ab_, aa_] <;> (split <;> rfl)) (by simp only [a7_, go_sem, seval, ab_, aa_] <;> (have : a ≠ b := (fun e => by simp [e] at h10); simp [this])) (by simp only [go_sem, seval, ab_, aa_])
 ·refine .skip (.seq (.seq (.rgn [] (by simp only [go_sem, seval, ab_, aa_]; rfl) ?_ ?_)))
  ·first | trivial | simp
  refine .block (.loopK (fun k : Nat => ⟨[.sl false (bm_ a), .sl false (bm_ b), .no, .no, .no, .i .i64 k, .no, .no, .no, .no, .no, .no, .no, .no, .no, .no, .no, .no, .no, .no, .no, .no, .no, .no, .no, .no], aw_ [], us []⟩) (fun k : Nat => k ≤ a.length ∧ a.take k = b.take k) (fun k : Nat => a.length - k) (0) ?_ ?_ (fun k hI => ?_))
  ·exact ⟨Nat.zero_le _, rfl⟩
  ·exact Can.weak (Weak.lit (by simp only [go_sem, seval, ab_, aa_, an_, leV, al_, am_, V.inn, us, true_or, or_true] <;> (simp)) (by simp only [go_sem, seval, ab_, aa_, an_, leV, al_, am_, V.inn, us, true_or, or_true]) (by simp only [go_sem, seval, ab_, aa_, an_, leV, al_, am_, V.inn, us, true_or, or_true]))
  refine .seq (.seq (.rgn [] (by simp only [go_sem, seval, ab_, aa_]; rfl) ?_ ?_))
  ·first | trivial | simp
  refine .condB (by simp only [go_sem, seval, ab_, aa_]; rfl) (by simp only [go_sem, seval, ab_, aa_]) (fun h14 => ?_) (fun h14 => ?_)
  ·refine .skip (.seq (.block (.seq (.rgnD [] enM (by simp only [go_sem, seval, ab_, aa_, co_ (show k < a.length by simpa using h14), co_ (show k < b.length by simp at h14 h10; omega)]; rfl) (by rfl) ?_ ?_))))
   ·simp at h14 h10; simp; omega
   refine .condB (by simp only [go_sem, seval, ab_, aa_]; rfl) (by simp only [go_sem, seval, ab_, aa_]) (fun h25 => ?_) (fun h25 => ?_)
   ·refine .seq (.rgn [] (by simp only [go_sem, seval, ab_, aa_]; rfl) ?_ ?_)
    ·first | trivial | simp
    refine .ret ⟨.inr rfl, ?_⟩
    exact Out.plain (by simp only [Tryz.results167]; rfl) (by simp only [aq_, a8_, go_sem, seval, ab_, aa_] <;> (split <;> rfl)) (by simp only [a7_, go_sem, seval, ab_, aa_] <;> (have h2 : a.getD k [] ≠ b.getD k [] := (by rw [Bool.not_eq_true', beq_eq_false_iff_ne] at h25; exact h25); have : a ≠ b := (fun e => h2 (by rw [e])); simp [this])) (by simp only [go_sem, seval, ab_, aa_])
   ·refine .skip (.rgn [] (by simp only [go_sem, seval, ab_, aa_]; rfl) ?_ ?_)
    ·first | trivial | simp
    refine Exists.intro (k + 1) ⟨?_, ?_, ?_⟩
    ·simp only [decide_eq_true_eq] at h14; simp at h10; exact ⟨by omega, adj_ (d := []) (by omega) (by omega) hI.2 (by simpa using h25)⟩
    ·simp at h14; omega
    exact Can.weak (Weak.lit (by simp only [go_sem, seval, ab_, aa_, an_, leV, al_, am_, V.inn, us, true_or, or_true] <;> (rw [bc_ (by simp at h14; omega) (by simp at h14; omega)]; simp)) (by simp only [go_sem, seval, ab_, aa_, an_, leV, al_, am_, V.inn, us, true_or, or_true]) (by simp only [go_sem, seval, ab_, aa_, an_, leV, al_, am_, V.inn, us, true_or, or_true]))
  ·refine .exit (.seq (.rgn [] (by simp only [go_sem, seval, ab_, aa_]; rfl) ?_ ?_))
   ·first | trivial | simp
   refine .ret ⟨.inr rfl, ?_⟩
   exact Out.plain (by simp only [Tryz.results167]; rfl) (by simp only [aq_, a8_, go_sem, seval, ab_, aa_] <;> (split <;> rfl)) (by simp only [a7_, go_sem, seval, ab_, aa_] <;> (simp only [decide_eq_false_iff_not] at h14; simp at h10; have q := hI.2; rw [List.take_of_length_le (by omega), List.take_of_length_le (by omega)] at q; simp [q])) (by simp only [go_sem, seval, ab_, aa_])
theorem hh_ (w : List Str) (hw : smW w) (hl : w.length ≤ 1000000) : ACall En 109 [.sl false (bm_ w)] [] [.ag (eC (ex w)), .b (j3_ w)] [] := by
 have hR := fun (h : w.length ≤ 40) => (vk_ w hw hl 500).2.2 0 5 (by decide) (by decide) (by omega) (by omega)
 have hS := ((ou_ w hw 500).2.2.2 0 5).1
 have hE : fc_ w = if w.length ≤ 40 then (if (!((sL1 500 w 0 5).2 == some w.length) || !eok (sL1 500 w 0 5).1 || !(wds (sL1 500 w 0 5).1 1 == w)) then none else some (sL1 500 w 0 5).1) else none := (aax_ w).trans rfl
 generalize sL1 500 w 0 5 = q at *
 have hq : (!(q.2 == some w.length)) = !(oN q.2 == (w.length : Int)) := by
  cases q.2 with
  | none => simp [oN]
  | some b => simp only [oN]; congr 1; rw [Bool.eq_iff_iff]; simp; omega
 rw [hq] at hE
 have n1 : decide ((w.length : Int) > 40) = true → fc_ w = none := fun h => by rw [hE, if_neg (by simp at h; omega)]
 have n2 : decide ((w.length : Int) > 40) = false → (!(oN q.2 == (w.length : Int)) || !eok q.1 || !(wds q.1 1 == w)) = true → fc_ w = none := fun h h2 => by rw [hE, if_pos (by simp at h; omega), if_pos h2]
 have n3 : decide ((w.length : Int) > 40) = false → (!(oN q.2 == (w.length : Int)) || !eok q.1 || !(wds q.1 1 == w)) = false → fc_ w = some q.1 := fun h h2 => by rw [hE, if_pos (by simp at h; omega), h2]; rfl
 refine ah_ (fn := Tryz.f109) [] Tryz.func109 rfl rfl (by simp) fun C => ?_
 rw [ar_]
 simp only [Tryz.ntmps109, List.length_cons, List.length_nil, Nat.reduceAdd, Nat.reduceSub, List.replicate_succ, List.replicate_zero, List.cons_append, List.nil_append, bd_]
 refine .seq (.rgn [] (by simp only [go_sem, seval, ab_, aa_, a3_]; rfl) ?_ ?_)
 ·first | trivial | simp
 refine .seq (.seq (.rgn [] (by simp only [go_sem, seval, ab_, aa_, a3_]; rfl) ?_ ?_))
 ·first | trivial | simp
 refine .condB (by simp only [go_sem, seval, ab_, aa_, a3_]; rfl) (by simp only [go_sem, seval, ab_, aa_, a3_]) (fun h8 => ?_) (fun h8 => ?_)
 ·refine .seq (.rgn [] (by simp only [go_sem, seval, ab_, aa_, a3_]; rfl) ?_ ?_)
  ·first | trivial | simp
  refine .ret ⟨.inr rfl, ?_⟩
  exact Out.plainL (by simp only [Tryz.results109]; rfl) (by simp only [aq_, a8_, go_sem, seval, ab_, aa_, a3_] <;> (split <;> rfl)) (by simp only [a7_, go_sem, seval, ab_, aa_, a3_] <;> (simp [ex, j3_, n1 h8, E0, E.kind, E.n, E.s, E.kids, eR, ler])) (by simp only [go_sem, seval, ab_, aa_, a3_])
 ·refine .skip (.seq (.rgn [a2_ (hR (by simp at h8; omega))] (by simp only [go_sem, seval, ab_, aa_, a3_]; rfl) ?_ ?_))
  ·first | trivial | simp
  refine .seq (.seq (.rgn [a2_ (hz_ q.1 hS), c1_ (eok q.1 = true) (fun h => ht_ 5 q.1 1 (bk_ h) hS (by have : many q.1 ((5 : Nat) : Int) ≤ 12 := h3_ h; omega) (by decide) (by decide)), c1_ (eok q.1 = true) (fun h => zn_ (wds q.1 1) w (by have := (cn_ h 1).2.1; omega) (by omega) )] (by simp only [go_sem, seval, ab_, aa_, a3_]; rfl) ?_ ?_))
  ·first | trivial | simp
  refine .condB (by simp only [go_sem, seval, ab_, aa_, a3_]; rfl) (by simp only [go_sem, seval, ab_, aa_, a3_]) (fun h30 => ?_) (fun h30 => ?_)
  ·refine .seq (.rgn [] (by simp only [go_sem, seval, ab_, aa_, a3_]; rfl) ?_ ?_)
   ·first | trivial | simp
   refine .ret ⟨.inr rfl, ?_⟩
   exact Out.plainL (by simp only [Tryz.results109]; rfl) (by simp only [aq_, a8_, go_sem, seval, ab_, aa_, a3_] <;> (split <;> rfl)) (by simp only [a7_, go_sem, seval, ab_, aa_, a3_] <;> (simp [ex, j3_, n2 h8 h30, E0, E.kind, E.n, E.s, E.kids, eR, ler])) (by simp only [go_sem, seval, ab_, aa_, a3_])
  ·refine .skip (.seq (.rgn [] (by simp only [go_sem, seval, ab_, aa_, a3_]; rfl) ?_ ?_))
   ·first | trivial | simp
   refine .ret ⟨.inr rfl, ?_⟩
   exact Out.plainL (by simp only [Tryz.results109]; rfl) (by simp only [aq_, a8_, go_sem, seval, ab_, aa_, a3_] <;> (split <;> rfl)) (by simp only [a7_, go_sem, seval, ab_, aa_, a3_] <;> (simp [ex, j3_, n3 h8 h30, ba_])) (by simp only [go_sem, seval, ab_, aa_, a3_])
end
end Go.Proofs.YtefmbmafdgedmaaGreatDoor
