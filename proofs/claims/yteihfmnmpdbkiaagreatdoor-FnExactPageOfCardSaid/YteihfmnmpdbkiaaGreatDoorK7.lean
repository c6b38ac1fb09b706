/- Parts of the proof, one after another: Texts and their lines: the reference's TextOk, TextLines. | What a text says: the reference's BareAll. Conditions: none. -/
import Derived.Test.YteihfmnmpdbkiaaGreatDoorK6
import Derived.Test.YteihfmnmpdbkiaaGreatDoorKw
import Derived.Test.YteihfmnmpdbkiaaGreatDoorKy
set_option linter.unusedVariables false
set_option linter.unusedSimpArgs false
namespace Go.Proofs.YteihfmnmpdbkiaaGreatDoor
section
set_option maxRecDepth 100000
set_option maxHeartbeats 4000000

def CutI (s : Str) (i : Nat) (p : Nat × List Str) : Prop :=
  p.1 ≤ i ∧ p.2.length ≤ i ∧ (i ≤ s.length → p.2 ++ spl (s.drop p.1) = spl s ∧ (10 : UInt8) ∉ (s.drop p.1).take (i - p.1)) ∧ (s.length < i → p.2 = spl s)
theorem cut_init (s : Str) : CutI s 0 (0, []) := ⟨Nat.le_refl _, Nat.le_refl _, fun _ => ⟨rfl, by simp⟩, fun h => absurd h (by omega)⟩
theorem cut_at {s : Str} {a i : Nat} (ha : a ≤ i) (hi : i < s.length) : s.drop a = (s.drop a).take (i - a) ++ s.getD i 0 :: s.drop (i + 1) := by
  conv => lhs; rw [← List.take_append_drop (i - a) (s.drop a)]
  rw [List.drop_drop, show a + (i - a) = i by omega, List.drop_eq_getElem_cons hi, List.getD_eq_getElem?_getD, List.getElem?_eq_getElem hi]; rfl
theorem cut_t {s : Str} {i : Nat} {p : Nat × List Str} (h : CutI s i p) (hi : i ≤ s.length) (hc : i = s.length ∨ s.getD i 0 = 10) : CutI s (i + 1) (i + 1, p.2 ++ [(s.drop p.1).take (i - p.1)]) := by
  obtain ⟨h1, h2, h3, -⟩ := h
  obtain ⟨h3, h4⟩ := h3 hi
  refine ⟨Nat.le_refl _, by simp; omega, fun hl => ?_, fun hl => ?_⟩
  · have h10 : s.getD i 0 = 10 := by
      rcases hc with hc | hc
      · omega
      · exact hc
    refine ⟨?_, by simp⟩
    rw [cut_at h1 (by omega), h10, spl_app h4] at h3
    dsimp only
    rw [List.append_assoc]; exact h3
  · have hil : i = s.length := by omega
    have e : (s.drop p.1).take (i - p.1) = s.drop p.1 := List.take_of_length_le (by rw [List.length_drop]; omega)
    rw [e] at h4 ⊢
    rw [spl_word h4] at h3
    exact h3
theorem cut_f {s : Str} {i : Nat} {p : Nat × List Str} (h : CutI s i p) (hi : i < s.length) (hc : s.getD i 0 ≠ 10) : CutI s (i + 1) p := by
  obtain ⟨h1, h2, h3, -⟩ := h
  obtain ⟨h3, h4⟩ := h3 (by omega)
  refine ⟨by omega, by omega, fun _ => ⟨h3, ?_⟩, fun hl => by omega⟩
  rw [show i + 1 - p.1 = (i - p.1) + 1 by omega, List.take_add_one, List.getElem?_drop, show p.1 + (i - p.1) = i by omega, List.getElem?_eq_getElem hi]
  rw [List.getD_eq_getElem?_getD, List.getElem?_eq_getElem hi] at hc
  simp only [Option.toList_some, List.mem_append, List.mem_singleton, not_or]
  exact ⟨h4, fun e => hc e.symm⟩
theorem cut_end {s : Str} {i : Nat} {p : Nat × List Str} (h : CutI s i p) (hi : ¬ i ≤ s.length) : p.2 = spl s := h.2.2.2 (by omega)
theorem nl_iff {c : UInt8} : ((c.toNat : Int) = 10) ↔ c = 10 := ⟨fun h => by apply UInt8.toNat_inj.1; show _ = 10; omega, fun h => by rw [h]; rfl⟩
theorem sTextOk_a (s : Str) (hs : s.length ≤ 281474976710656) : ACall En 120 [.s s] [] [.b (tOk s)] [] := by
  refine acall_of_body (fn := Tryz.f120) [] Tryz.func120 rfl rfl (by simp) fun C => ?_
  rw [entry_eq]
  simp only [Tryz.ntmps120, List.length_cons, List.length_nil, Nat.reduceAdd, Nat.reduceSub, List.replicate_succ, List.replicate_zero, List.cons_append, List.nil_append, numL]
  refine AWp.seq ?_
  refine AWp.rgn [] (by simp only [go_sem, seval]; rfl) ?_ ?_
  · (first | trivial | (simp; done))
  refine AWp.seq ?_
  refine AWp.rgn [] (by simp only [go_sem, seval]; rfl) ?_ ?_
  · (first | trivial | (simp; done))
  refine AWp.seq ?_
  refine AWp.seq ?_
  refine AWp.rgn [] (by simp only [go_sem, seval]; rfl) ?_ ?_
  · (first | trivial | (simp; done))
  refine AWp.block ?_
  refine AWp.loopK (fun q : Nat × Int => ⟨[.s s, .no, .no, .i .i64 q.2, .i .i64 q.1, .no, .no, .no, .no, .no, .no, .no, .no, .no, .no, .no, .no, .no, .no, .no, .no, .no, .no, .no, .no, .no, .no, .no, .no, .no, .no, .no, .no, .no, .no, .no, .no, .no], memOf [], us []⟩) (fun q : Nat × Int => q.1 ≤ s.length ∧ 0 ≤ q.2 ∧ q.2 ≤ 120 ∧ tokW (s.drop q.1) q.2 = tokW s 0) (fun q : Nat × Int => s.length - q.1) ((0, 0)) ?_ ?_ (fun q hI => ?_)
  · exact ⟨by simp, by decide, by decide, rfl⟩
  · exact Can.weak (Weak.lit (by simp only [go_sem, seval, subM, leV, inns, innr, V.inn, us, true_or, or_true] <;> (simp)) (by simp only [go_sem, seval, subM, leV, inns, innr, V.inn, us, true_or, or_true]) (by simp only [go_sem, seval, subM, leV, inns, innr, V.inn, us, true_or, or_true]))
  refine AWp.seq ?_
  refine AWp.seq ?_
  refine AWp.rgn [] (by simp only [go_sem, seval]; rfl) ?_ ?_
  · (first | trivial | (simp; done))
  refine AWp.condB (by simp only [go_sem, seval]; rfl) (by simp only [go_sem, seval]) (fun h8 => ?_) (fun h8 => ?_)
  · refine AWp.skip ?_
    refine AWp.seq ?_
    refine AWp.block ?_
    refine AWp.seq ?_
    refine AWp.seq ?_
    refine AWp.rgn [] (by simp only [go_sem, seval]; rfl) ?_ ?_
    · simp only [decide_eq_true_eq] at h8; exact ⟨⟨⟨by omega, fun h => ⟨h, by omega, by omega⟩⟩, fun h => ⟨h, by omega, by omega⟩⟩, fun h => ⟨h, fun h2 => by rw [h, h2]; rfl⟩⟩
    refine AWp.condB (by simp only [go_sem, seval]; rfl) (by simp only [go_sem, seval]) (fun h26 => ?_) (fun h26 => ?_)
    · refine AWp.seq ?_
      refine AWp.rgn [] (by simp only [go_sem, seval]; rfl) ?_ ?_
      · (first | trivial | (simp; done))
      refine AWp.ret (And.intro (.inr rfl) ?_)
      exact Out.plain (by simp only [Tryz.results120]; rfl) (by simp only [resCs, resC, go_sem, seval] <;> (split <;> rfl)) (by simp only [resV, go_sem, seval] <;> (simp only [decide_eq_true_eq] at h8; rw [Bool.and_eq_true] at h26; have hc := bne_iff_ne.1 h26.1; have e := tok_go (show q.1 < s.length by omega) (w := q.2) hc; rw [h26.2] at e; unfold tOk; rw [← hI.2.2.2, e]; rfl)) (by simp only [go_sem, seval])
    · refine AWp.skip ?_
      refine AWp.seq ?_
      refine AWp.rgn [] (by simp only [go_sem, seval]; rfl) ?_ ?_
      · (first | trivial | (simp; done))
      refine AWp.seqJ (fun p : Int => ⟨[.s s, .no, .no, .i .i64 p, .i .i64 q.1, .no, .no, .no, .no, .no, .no, .no, .no, .no, .no, .no, .no, .no, .no, .no, .no, .no, .no, .no, .no, .no, .no, .no, .no, .no, .no, .no, .no, .no, .no, .no, .no, .no], memOf [], us []⟩) (fun p : Int => p = if ((s.getD q.1 0).toNat : Int) = 10 then 0 else q.2 + 1) ?_ (fun p hJ => ?_)
      · refine AWp.seq ?_
        refine AWp.rgn [] (by simp only [go_sem, seval]; rfl) ?_ ?_
        · simp only [decide_eq_true_eq] at h8; omega
        refine AWp.condB (by simp only [go_sem, seval]; rfl) (by simp only [go_sem, seval]) (fun h32 => ?_) (fun h32 => ?_)
        · refine AWp.rgn [] (by simp only [go_sem, seval]; rfl) ?_ ?_
          · (first | trivial | (simp; done))
          refine Exists.intro (0) ⟨?_, ?_⟩
          · first | (rw [if_pos (beq_iff_eq.1 h32)]) | (rw [if_neg (by rw [beq_eq_false_iff_ne] at h32; exact h32)])
          exact Can.weak (Weak.lit (by simp only [go_sem, seval, subM, leV, inns, innr, V.inn, us, true_or, or_true] <;> (exact wrap64 (by omega) (by omega))) (by simp only [go_sem, seval, subM, leV, inns, innr, V.inn, us, true_or, or_true]) (by simp only [go_sem, seval, subM, leV, inns, innr, V.inn, us, true_or, or_true]))
        · refine AWp.skip ?_
          refine Exists.intro (q.2 + 1) ⟨?_, ?_⟩
          · first | (rw [if_pos (beq_iff_eq.1 h32)]) | (rw [if_neg (by rw [beq_eq_false_iff_ne] at h32; exact h32)])
          exact Can.weak (Weak.lit (by simp only [go_sem, seval, subM, leV, inns, innr, V.inn, us, true_or, or_true] <;> (exact wrap64 (by omega) (by omega))) (by simp only [go_sem, seval, subM, leV, inns, innr, V.inn, us, true_or, or_true]) (by simp only [go_sem, seval, subM, leV, inns, innr, V.inn, us, true_or, or_true]))
      refine AWp.seq ?_
      refine AWp.rgn [] (by simp only [go_sem, seval]; rfl) ?_ ?_
      · (first | trivial | (simp; done))
      refine AWp.condB (by simp only [go_sem, seval]; rfl) (by simp only [go_sem, seval]) (fun h34 => ?_) (fun h34 => ?_)
      · refine AWp.seq ?_
        refine AWp.rgn [] (by simp only [go_sem, seval]; rfl) ?_ ?_
        · (first | trivial | (simp; done))
        refine AWp.ret (And.intro (.inr rfl) ?_)
        exact Out.plain (by simp only [Tryz.results120]; rfl) (by simp only [resCs, resC, go_sem, seval] <;> (split <;> rfl)) (by simp only [resV, go_sem, seval] <;> (simp only [decide_eq_true_eq] at h8 h34; by_cases hc : ((s.getD q.1 0).toNat : Int) = 10; (rw [if_pos hc] at hJ; omega); (have e := tok_go (show q.1 < s.length by omega) (w := q.2) hc; rw [if_neg hc] at hJ; rw [decide_eq_true (show q.2 + 1 > 120 by omega)] at e; unfold tOk; rw [← hI.2.2.2, e]; simp))) (by simp only [go_sem, seval])
      · refine AWp.skip ?_
        refine AWp.rgn [] (by simp only [go_sem, seval]; rfl) ?_ ?_
        · (first | trivial | (simp; done))
        refine Exists.intro ((q.1 + 1, p)) ⟨?_, ?_, ?_⟩
        · simp only [decide_eq_true_eq] at h8; simp only [decide_eq_false_iff_not] at h34; have e := tokW_at (show q.1 < s.length by omega) q.2; by_cases hc : ((s.getD q.1 0).toNat : Int) = 10; (rw [if_pos hc] at e hJ; exact ⟨by dsimp only; omega, by dsimp only; omega, by dsimp only; omega, by dsimp only; rw [hJ, ← e]; exact hI.2.2.2⟩); (have e := tok_go (show q.1 < s.length by omega) (w := q.2) hc; rw [if_neg hc] at hJ; have h26' : (decide (((s.getD q.1 0).toNat : Int) < 32) || decide (((s.getD q.1 0).toNat : Int) > 126)) = false := (by rw [show (((s.getD q.1 0).toNat : Int) != 10) = true from bne_iff_ne.2 hc, Bool.true_and] at h26; exact h26); rw [h26', decide_eq_false (show ¬ q.2 + 1 > 120 by omega)] at e; exact ⟨by dsimp only; omega, by dsimp only; omega, by dsimp only; omega, by dsimp only; rw [hJ, ← hI.2.2.2, e]; rfl⟩)
        · simp at h8; dsimp only; omega
        exact Can.weak (Weak.lit (by simp only [go_sem, seval, subM, leV, inns, innr, V.inn, us, true_or, or_true] <;> (rw [wrap64 (by simp at h8; omega) (by simp at h8; omega)]; simp)) (by simp only [go_sem, seval, subM, leV, inns, innr, V.inn, us, true_or, or_true]) (by simp only [go_sem, seval, subM, leV, inns, innr, V.inn, us, true_or, or_true]))
  · refine AWp.exit ?_
    refine AWp.seq ?_
    refine AWp.rgn [] (by simp only [go_sem, seval]; rfl) ?_ ?_
    · (first | trivial | (simp; done))
    refine AWp.ret (And.intro (.inr rfl) ?_)
    exact Out.plain (by simp only [Tryz.results120]; rfl) (by simp only [resCs, resC, go_sem, seval] <;> (split <;> rfl)) (by simp only [resV, go_sem, seval] <;> (simp only [decide_eq_false_iff_not] at h8; have e := hI.2.2.2; rw [List.drop_of_length_le (by omega)] at e; unfold tOk; rw [← e]; simp only [tokW, Bool.true_and]; rw [show decide ((s.length : Int) ≤ 4000) = decide (s.length ≤ 4000) from decide_eq_decide.2 (by omega)])) (by simp only [go_sem, seval])
theorem l12Cut_a (s : Str) (hs : s.length ≤ 4000) : ACall En 121 [.s s, .i .u8 10] [] [.sl false (strR (spl s))] [] := by
  refine acall_of_body (fn := Tryz.f121) [] Tryz.func121 rfl rfl (by simp) fun C => ?_
  rw [entry_eq]
  simp only [Tryz.ntmps121, List.length_cons, List.length_nil, Nat.reduceAdd, Nat.reduceSub, List.replicate_succ, List.replicate_zero, List.cons_append, List.nil_append, numL]
  refine AWp.seq ?_
  refine AWp.rgn [] (by simp only [go_sem, seval, strR_len, strR_pure]; rfl) ?_ ?_
  · (first | trivial | (simp; done))
  refine AWp.seq ?_
  refine AWp.rgn [] (by simp only [go_sem, seval, strR_len, strR_pure]; rfl) ?_ ?_
  · (first | trivial | (simp; done))
  refine AWp.seq ?_
  refine AWp.rgn [] (by simp only [go_sem, seval, strR_len, strR_pure]; rfl) ?_ ?_
  · (first | trivial | (simp; done))
  refine AWp.seq ?_
  refine AWp.seq ?_
  refine AWp.rgn [] (by simp only [go_sem, seval, strR_len, strR_pure]; rfl) ?_ ?_
  · (first | trivial | (simp; done))
  refine AWp.block ?_
  refine AWp.loopK (fun q : Nat × Nat × List Str => ⟨[.s s, .i .u8 10, .no, .no, .no, .ow 18 1 0 q.2.2.length, .i .i64 q.2.1, .i .i64 q.1, .no, .no, .no, .no, .no, .no, .no, .no, .no, .no, .no, .no, .no, .no, .no, .no, .no, .no, .no, .no, .no, .no, .no, .no, .no, .no, .no, .no], memOf [(18, ⟨9, 1, strR q.2.2⟩)], us [18]⟩) (fun q : Nat × Nat × List Str => q.1 ≤ s.length + 1 ∧ CutI s q.1 q.2) (fun q : Nat × Nat × List Str => s.length + 1 - q.1) ((0, 0, [])) ?_ ?_ (fun q hI => ?_)
  · exact ⟨by simp, cut_init s⟩
  · refine Can.trans (Can.ownSlot 5 18 9 1 (by simp only [go_sem, seval, strR_len, strR_pure] <;> rfl) (by simp only [go_sem, seval, strR_len, strR_pure]) (by simp only [go_sem, seval, strR_len, strR_pure] <;> rfl)) ?_
    exact Can.weak (Weak.lit (by simp only [go_sem, seval, strR_len, strR_pure, subM, leV, inns, innr, V.inn, us, true_or, or_true] <;> ((try simp))) (by simp only [go_sem, seval, strR_len, strR_pure, subM, leV, inns, innr, V.inn, us, true_or, or_true]) (by simp only [go_sem, seval, strR_len, strR_pure, subM, leV, inns, innr, V.inn, us, true_or, or_true] <;> ((try simp [strR]))))
  refine AWp.seq ?_
  refine AWp.seq ?_
  refine AWp.rgn [] (by simp only [go_sem, seval, strR_len, strR_pure]; rfl) ?_ ?_
  · (first | trivial | (simp; done))
  refine AWp.condB (by simp only [go_sem, seval, strR_len, strR_pure]; rfl) (by simp only [go_sem, seval, strR_len, strR_pure]) (fun h12 => ?_) (fun h12 => ?_)
  · refine AWp.skip ?_
    refine AWp.seqJ (fun p : Nat × List Str => ⟨[.s s, .i .u8 10, .no, .no, .no, .ow 18 1 0 p.2.length, .i .i64 p.1, .i .i64 q.1, .no, .no, .no, .no, .no, .no, .no, .no, .no, .no, .no, .no, .no, .no, .no, .no, .no, .no, .no, .no, .no, .no, .no, .no, .no, .no, .no, .no], memOf [(18, ⟨9, 1, strR p.2⟩)], us [18]⟩) (fun p : Nat × List Str => CutI s (q.1 + 1) p) ?_ (fun p hJ => ?_)
    · refine AWp.block ?_
      refine AWp.seq ?_
      refine AWp.rgn [] (by simp only [go_sem, seval, strR_len, strR_pure]; rfl) ?_ ?_
      · simp only [decide_eq_true_eq] at h12; exact ⟨fun h => ⟨h, by omega, by simp only [Bool.not_eq_true', beq_eq_false_iff_ne] at h; omega⟩, fun h => by rw [h]; rfl⟩
      refine AWp.condB (by simp only [go_sem, seval, strR_len, strR_pure]; rfl) (by simp only [go_sem, seval, strR_len, strR_pure]) (fun h25 => ?_) (fun h25 => ?_)
      · refine AWp.seq ?_
        refine AWp.rgn [] (by simp only [go_sem, seval, strR_len, strR_pure]; rfl) ?_ ?_
        · simp only [decide_eq_true_eq] at h12; have h1 := hI.2.1; have h2 := hI.2.2.1; refine ⟨⟨by omega, by omega, by omega, by omega, by simp⟩, by simp, by simp, by omega⟩
        refine AWp.rgn [] (by simp only [go_sem, seval, strR_len, strR_pure]; rfl) ?_ ?_
        · (first | trivial | (simp; done))
        refine Exists.intro ((q.1 + 1, q.2.2 ++ [(s.drop q.2.1).take (q.1 - q.2.1)])) ⟨?_, ?_⟩
        · simp only [decide_eq_true_eq] at h12; first | (refine cut_t hI.2 (by omega) ?_; simp only [Bool.or_eq_true, beq_iff_eq] at h25; rcases h25 with h | h; exact .inl (by omega); exact .inr (nl_iff.1 h)) | (simp only [Bool.or_eq_false_iff, beq_eq_false_iff_ne] at h25; exact cut_f hI.2 (by omega) (fun e => h25.2 (nl_iff.2 e)))
        refine Can.trans (Can.swap 42 18 (by decide) (by decide) (by decide) (by decide) (by simp only [go_sem, seval, strR_len, strR_pure, V.cl]) (by simp only [go_sem, seval, strR_len, strR_pure, V.cl]) (by simp only [go_sem, seval, strR_len, strR_pure, swL_get, sw, swM, rnB] <;> rfl) (by simp only [go_sem, seval, strR_len, strR_pure, swL_get, sw, swM, rnB] <;> rfl) (by simp only [go_sem, seval, strR_len, strR_pure, swL_get, sw, swM, rnB] <;> rfl)) ?_
        exact Can.weak (Weak.lit (by simp only [go_sem, seval, strR_len, strR_pure, subM, leV, inns, innr, V.inn, us, true_or, or_true] <;> (first | rfl | (refine ⟨by simp, ?_⟩; simp only [decide_eq_true_eq] at h12; exact wrapN (q.1 + 1) (by omega)))) (by simp only [go_sem, seval, strR_len, strR_pure, subM, leV, inns, innr, V.inn, us, true_or, or_true]) (by simp only [go_sem, seval, strR_len, strR_pure, subM, leV, inns, innr, V.inn, us, true_or, or_true] <;> (first | rfl | (rw [List.drop_take, strR_app]; rfl))))
      · refine AWp.skip ?_
        refine Exists.intro ((q.2.1, q.2.2)) ⟨?_, ?_⟩
        · simp only [decide_eq_true_eq] at h12; first | (refine cut_t hI.2 (by omega) ?_; simp only [Bool.or_eq_true, beq_iff_eq] at h25; rcases h25 with h | h; exact .inl (by omega); exact .inr (nl_iff.1 h)) | (simp only [Bool.or_eq_false_iff, beq_eq_false_iff_ne] at h25; exact cut_f hI.2 (by omega) (fun e => h25.2 (nl_iff.2 e)))
        exact Can.weak (Weak.lit (by simp only [go_sem, seval, strR_len, strR_pure, subM, leV, inns, innr, V.inn, us, true_or, or_true] <;> (first | rfl | (refine ⟨by simp, ?_⟩; simp only [decide_eq_true_eq] at h12; exact wrapN (q.1 + 1) (by omega)))) (by simp only [go_sem, seval, strR_len, strR_pure, subM, leV, inns, innr, V.inn, us, true_or, or_true]) (by simp only [go_sem, seval, strR_len, strR_pure, subM, leV, inns, innr, V.inn, us, true_or, or_true] <;> (first | rfl | (rw [List.drop_take, strR_app]; rfl))))
    refine AWp.rgn [] (by simp only [go_sem, seval, strR_len, strR_pure]; rfl) ?_ ?_
    · (first | trivial | (simp; done))
    refine Exists.intro ((q.1 + 1, p.1, p.2)) ⟨?_, ?_, ?_⟩
    · simp only [decide_eq_true_eq] at h12; exact ⟨by dsimp only; omega, hJ⟩
    · simp at h12; dsimp only; omega
    exact Can.weak (Weak.lit (by simp only [go_sem, seval, strR_len, strR_pure, subM, leV, inns, innr, V.inn, us, true_or, or_true] <;> (rw [wrap64 (by simp at h12; omega) (by simp at h12; omega)]; (try simp))) (by simp only [go_sem, seval, strR_len, strR_pure, subM, leV, inns, innr, V.inn, us, true_or, or_true]) (by simp only [go_sem, seval, strR_len, strR_pure, subM, leV, inns, innr, V.inn, us, true_or, or_true] <;> ((try simp))))
  · refine AWp.exit ?_
    refine AWp.seq ?_
    refine AWp.rgn [] (by simp only [go_sem, seval, strR_len, strR_pure]; rfl) ?_ ?_
    · (first | trivial | (simp; done))
    refine AWp.frz 18 (by simp only [go_sem, seval, strR_len, strR_pure]; rfl) (by simp only [go_sem, seval, strR_len, strR_pure]) (by simp only [go_sem, seval, strR_len, strR_pure]; rfl) (by simp only [go_sem, seval, strR_len, strR_pure]; rfl) ?_
    refine AWp.ret (And.intro (.inr rfl) ?_)
    exact Out.plainL (by simp only [Tryz.results121]; rfl) (by simp only [resCs, resC, go_sem, seval, strR_len, strR_pure] <;> (split <;> rfl)) (by simp only [resV, go_sem, seval, strR_len, strR_pure] <;> (simp only [decide_eq_false_iff_not] at h12; have e := cut_end hI.2 (by omega); rw [← e]; simp [peel, leV, ler_refl, strR_len, List.take_of_length_le])) (by simp only [go_sem, seval, strR_len, strR_pure])
end

section
set_option maxRecDepth 100000
set_option maxHeartbeats 4000000
end
end Go.Proofs.YteihfmnmpdbkiaaGreatDoor
