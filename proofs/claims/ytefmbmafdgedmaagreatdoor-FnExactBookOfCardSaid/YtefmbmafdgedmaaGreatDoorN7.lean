/- Texts and their lines: the reference's TextOk, TextLines. Conditions: none. -/
import Derived.Test.YtefmbmafdgedmaaGreatDoorN6
import Derived.Test.YtefmbmafdgedmaaGreatDoorNv
import Derived.Test.YtefmbmafdgedmaaGreatDoorNy
import Derived.Test.YtefmbmafdgedmaaGreatDoorNt
import Derived.Test.YtefmbmafdgedmaaGreatDoorNx
import Derived.Test.YtefmbmafdgedmaaGreatDoorN4
set_option linter.unusedVariables false
set_option linter.unusedSimpArgs false
namespace Go.Proofs.YtefmbmafdgedmaaGreatDoor
section
set_option maxRecDepth 100000
set_option maxHeartbeats 4000000
def th_ (s : Str) (i : Nat) (p : Nat × List Str) : Prop :=
 p.1 ≤ i ∧ p.2.length ≤ i ∧ (i ≤ s.length → p.2 ++ spl (s.drop p.1) = spl s ∧ (10 : UInt8) ∉ (s.drop p.1).take (i - p.1)) ∧ (s.length < i → p.2 = spl s)
theorem acv_ (s : Str) : th_ s 0 (0, []) := ⟨Nat.le_refl _, Nat.le_refl _, fun _ => ⟨rfl, by simp⟩, fun h => absurd h (by omega)⟩
theorem ag2_ {s : Str} {a i : Nat} (ha : a ≤ i) (hi : i < s.length) : s.drop a = (s.drop a).take (i - a) ++ s.getD i 0 :: s.drop (i + 1) := by
 conv => lhs; rw [← List.take_append_drop (i - a) (s.drop a)]
 rw [List.drop_drop, show a + (i - a) = i by omega, List.drop_eq_getElem_cons hi, List.getD_eq_getElem?_getD, List.getElem?_eq_getElem hi]; rfl
theorem agr_ {s : Str} {i : Nat} {p : Nat × List Str} (h : th_ s i p) (hi : i ≤ s.length) (hc : i = s.length ∨ s.getD i 0 = 10) : th_ s (i + 1) (i + 1, p.2 ++ [(s.drop p.1).take (i - p.1)]) := by
 obtain ⟨h1, h2, h3, -⟩ := h
 obtain ⟨h3, h4⟩ := h3 hi
 refine ⟨Nat.le_refl _, by simp; omega, fun hl => ?_, fun hl => ?_⟩
 ·have h10 : s.getD i 0 = 10 := by
   rcases hc with hc | hc
   ·omega
   ·exact hc
  refine ⟨?_, by simp⟩
  rw [ag2_ h1 (by omega), h10, nj_ h4] at h3
  dsimp only
  rw [List.append_assoc]; exact h3
 ·have hil : i = s.length := by omega
  have e : (s.drop p.1).take (i - p.1) = s.drop p.1 := List.take_of_length_le (by rw [List.length_drop]; omega)
  rw [e] at h4 ⊢
  rw [kg_ h4] at h3
  exact h3
theorem agm_ {s : Str} {i : Nat} {p : Nat × List Str} (h : th_ s i p) (hi : i < s.length) (hc : s.getD i 0 ≠ 10) : th_ s (i + 1) p := by
 obtain ⟨h1, h2, h3, -⟩ := h
 obtain ⟨h3, h4⟩ := h3 (by omega)
 refine ⟨by omega, by omega, fun _ => ⟨h3, ?_⟩, fun hl => by omega⟩
 rw [show i + 1 - p.1 = (i - p.1) + 1 by omega, List.take_add_one, List.getElem?_drop, show p.1 + (i - p.1) = i by omega, List.getElem?_eq_getElem hi]
 rw [List.getD_eq_getElem?_getD, List.getElem?_eq_getElem hi] at hc
 simp only [Option.toList_some, List.mem_append, List.mem_singleton, not_or]
 exact ⟨h4, fun e => hc e.symm⟩
theorem aec_ {s : Str} {i : Nat} {p : Nat × List Str} (h : th_ s i p) (hi : ¬ i ≤ s.length) : p.2 = spl s := h.2.2.2 (by omega)
theorem r0_ {c : UInt8} : ((c.toNat : Int) = 10) ↔ c = 10 := ⟨fun h => by apply UInt8.toNat_inj.1; show _ = 10; omega, fun h => by rw [h]; rfl⟩
theorem qy_ (s : Str) (hs : s.length ≤ 281474976710656) : ACall En 121 [.s s] [] [.b (tOk s)] [] := by
 refine ah_ (fn := Tryz.f121) [] Tryz.func121 rfl rfl (by simp) fun C => ?_
 rw [ar_]
 simp only [Tryz.ntmps121, List.length_cons, List.length_nil, Nat.reduceAdd, Nat.reduceSub, List.replicate_succ, List.replicate_zero, List.cons_append, List.nil_append, bd_]
 refine .seq (.rgn [] (by simp only [go_sem, seval]; rfl) ?_ ?_)
 ·first | trivial | simp
 refine .seq (.rgn [] (by simp only [go_sem, seval]; rfl) ?_ ?_)
 ·first | trivial | simp
 refine .seq (.seq (.rgn [] (by simp only [go_sem, seval]; rfl) ?_ ?_))
 ·first | trivial | simp
 refine .block (.loopK (fun q : Nat × Int => ⟨[.s s, .no, .no, .i .i64 q.2, .i .i64 q.1, .no, .no, .no, .no, .no, .no, .no, .no, .no, .no, .no, .no, .no, .no, .no, .no, .no, .no, .no, .no, .no, .no, .no, .no, .no, .no, .no, .no, .no, .no, .no, .no, .no], aw_ [], us []⟩) (fun q : Nat × Int => q.1 ≤ s.length ∧ 0 ≤ q.2 ∧ q.2 ≤ 120 ∧ i5_ (s.drop q.1) q.2 = i5_ s 0) (fun q : Nat × Int => s.length - q.1) ((0, 0)) ?_ ?_ (fun q hI => ?_))
 ·exact ⟨by simp, by decide, by decide, rfl⟩
 ·exact Can.weak (Weak.lit (by simp only [go_sem, seval, an_, leV, al_, am_, V.inn, us, true_or, or_true] <;> (simp)) (by simp only [go_sem, seval, an_, leV, al_, am_, V.inn, us, true_or, or_true]) (by simp only [go_sem, seval, an_, leV, al_, am_, V.inn, us, true_or, or_true]))
 refine .seq (.seq (.rgn [] (by simp only [go_sem, seval]; rfl) ?_ ?_))
 ·first | trivial | simp
 refine .condB (by simp only [go_sem, seval]; rfl) (by simp only [go_sem, seval]) (fun h8 => ?_) (fun h8 => ?_)
 ·refine .skip (.seq (.block (.seq (.seq (.rgn [] (by simp only [go_sem, seval]; rfl) ?_ ?_)))))
  ·simp only [decide_eq_true_eq] at h8; exact ⟨⟨⟨by omega, fun h => ⟨h, by omega, by omega⟩⟩, fun h => ⟨h, by omega, by omega⟩⟩, fun h => ⟨h, fun h2 => by rw [h, h2]; rfl⟩⟩
  refine .condB (by simp only [go_sem, seval]; rfl) (by simp only [go_sem, seval]) (fun h26 => ?_) (fun h26 => ?_)
  ·refine .seq (.rgn [] (by simp only [go_sem, seval]; rfl) ?_ ?_)
   ·first | trivial | simp
   refine .ret ⟨.inr rfl, ?_⟩
   exact Out.plain (by simp only [Tryz.results121]; rfl) (by simp only [aq_, a8_, go_sem, seval] <;> (split <;> rfl)) (by simp only [a7_, go_sem, seval] <;> (simp only [decide_eq_true_eq] at h8; rw [Bool.and_eq_true] at h26; have hc := bne_iff_ne.1 h26.1; have e := me_ (show q.1 < s.length by omega) (w := q.2) hc; rw [h26.2] at e; unfold tOk; rw [← hI.2.2.2, e]; rfl)) (by simp only [go_sem, seval])
  ·refine .skip (.seq (.rgn [] (by simp only [go_sem, seval]; rfl) ?_ ?_))
   ·first | trivial | simp
   refine .seqJ (fun p : Int => ⟨[.s s, .no, .no, .i .i64 p, .i .i64 q.1, .no, .no, .no, .no, .no, .no, .no, .no, .no, .no, .no, .no, .no, .no, .no, .no, .no, .no, .no, .no, .no, .no, .no, .no, .no, .no, .no, .no, .no, .no, .no, .no, .no], aw_ [], us []⟩) (fun p : Int => p = if ((s.getD q.1 0).toNat : Int) = 10 then 0 else q.2 + 1) ?_ (fun p hJ => ?_)
   ·refine .seq (.rgn [] (by simp only [go_sem, seval]; rfl) ?_ ?_)
    ·simp only [decide_eq_true_eq] at h8; omega
    refine .condB (by simp only [go_sem, seval]; rfl) (by simp only [go_sem, seval]) (fun h32 => ?_) (fun h32 => ?_)
    ·refine .rgn [] (by simp only [go_sem, seval]; rfl) ?_ ?_
     ·first | trivial | simp
     refine Exists.intro (0) ⟨?_, ?_⟩
     ·first | (rw [if_pos (beq_iff_eq.1 h32)]) | (rw [if_neg (by rw [beq_eq_false_iff_ne] at h32; exact h32)])
     exact Can.weak (Weak.lit (by simp only [go_sem, seval, an_, leV, al_, am_, V.inn, us, true_or, or_true] <;> (exact bc_ (by omega) (by omega))) (by simp only [go_sem, seval, an_, leV, al_, am_, V.inn, us, true_or, or_true]) (by simp only [go_sem, seval, an_, leV, al_, am_, V.inn, us, true_or, or_true]))
    ·refine .skip ?_
     refine Exists.intro (q.2 + 1) ⟨?_, ?_⟩
     ·first | (rw [if_pos (beq_iff_eq.1 h32)]) | (rw [if_neg (by rw [beq_eq_false_iff_ne] at h32; exact h32)])
     exact Can.weak (Weak.lit (by simp only [go_sem, seval, an_, leV, al_, am_, V.inn, us, true_or, or_true] <;> (exact bc_ (by omega) (by omega))) (by simp only [go_sem, seval, an_, leV, al_, am_, V.inn, us, true_or, or_true]) (by simp only [go_sem, seval, an_, leV, al_, am_, V.inn, us, true_or, or_true]))
   refine .seq (.rgn [] (by simp only [go_sem, seval]; rfl) ?_ ?_)
   ·first | trivial | simp
   refine .condB (by simp only [go_sem, seval]; rfl) (by simp only [go_sem, seval]) (fun h34 => ?_) (fun h34 => ?_)
   ·refine .seq (.rgn [] (by simp only [go_sem, seval]; rfl) ?_ ?_)
    ·first | trivial | simp
    refine .ret ⟨.inr rfl, ?_⟩
    exact Out.plain (by simp only [Tryz.results121]; rfl) (by simp only [aq_, a8_, go_sem, seval] <;> (split <;> rfl)) (by simp only [a7_, go_sem, seval] <;> (simp only [decide_eq_true_eq] at h8 h34; by_cases hc : ((s.getD q.1 0).toNat : Int) = 10; (rw [if_pos hc] at hJ; omega); (have e := me_ (show q.1 < s.length by omega) (w := q.2) hc; rw [if_neg hc] at hJ; rw [decide_eq_true (show q.2 + 1 > 120 by omega)] at e; unfold tOk; rw [← hI.2.2.2, e]; simp))) (by simp only [go_sem, seval])
   ·refine .skip (.rgn [] (by simp only [go_sem, seval]; rfl) ?_ ?_)
    ·first | trivial | simp
    refine Exists.intro ((q.1 + 1, p)) ⟨?_, ?_, ?_⟩
    ·simp only [decide_eq_true_eq] at h8; simp only [decide_eq_false_iff_not] at h34; have e := m9_ (show q.1 < s.length by omega) q.2; by_cases hc : ((s.getD q.1 0).toNat : Int) = 10; (rw [if_pos hc] at e hJ; exact ⟨by dsimp only; omega, by dsimp only; omega, by dsimp only; omega, by dsimp only; rw [hJ, ← e]; exact hI.2.2.2⟩); (have e := me_ (show q.1 < s.length by omega) (w := q.2) hc; rw [if_neg hc] at hJ; have h26' : (decide (((s.getD q.1 0).toNat : Int) < 32) || decide (((s.getD q.1 0).toNat : Int) > 126)) = false := (by rw [show (((s.getD q.1 0).toNat : Int) != 10) = true from bne_iff_ne.2 hc, Bool.true_and] at h26; exact h26); rw [h26', decide_eq_false (show ¬ q.2 + 1 > 120 by omega)] at e; exact ⟨by dsimp only; omega, by dsimp only; omega, by dsimp only; omega, by dsimp only; rw [hJ, ← hI.2.2.2, e]; rfl⟩)
    ·simp at h8; dsimp only; omega
    exact Can.weak (Weak.lit (by simp only [go_sem, seval, an_, leV, al_, am_, V.inn, us, true_or, or_true] <;> (rw [bc_ (by simp at h8; omega) (by simp at h8; omega)]; simp)) (by simp only [go_sem, seval, an_, leV, al_, am_, V.inn, us, true_or, or_true]) (by simp only [go_sem, seval, an_, leV, al_, am_, V.inn, us, true_or, or_true]))
 ·refine .exit (.seq (.rgn [] (by simp only [go_sem, seval]; rfl) ?_ ?_))
  ·first | trivial | simp
  refine .ret ⟨.inr rfl, ?_⟩
  exact Out.plain (by simp only [Tryz.results121]; rfl) (by simp only [aq_, a8_, go_sem, seval] <;> (split <;> rfl)) (by simp only [a7_, go_sem, seval] <;> (simp only [decide_eq_false_iff_not] at h8; have e := hI.2.2.2; rw [List.drop_of_length_le (by omega)] at e; unfold tOk; rw [← e]; simp only [i5_, Bool.true_and]; rw [show decide ((s.length : Int) ≤ 4000) = decide (s.length ≤ 4000) from decide_eq_decide.2 (by omega)])) (by simp only [go_sem, seval])
theorem sr_ (s : Str) (hs : s.length ≤ 4000) : ACall En 122 [.s s, .i .u8 10] [] [.sl false (bm_ (spl s))] [] := by
 refine ah_ (fn := Tryz.f122) [] Tryz.func122 rfl rfl (by simp) fun C => ?_
 rw [ar_]
 simp only [Tryz.ntmps122, List.length_cons, List.length_nil, Nat.reduceAdd, Nat.reduceSub, List.replicate_succ, List.replicate_zero, List.cons_append, List.nil_append, bd_]
 refine .seq (.rgn [] (by simp only [go_sem, seval, ab_, aa_]; rfl) ?_ ?_)
 ·first | trivial | simp
 refine .seq (.rgn [] (by simp only [go_sem, seval, ab_, aa_]; rfl) ?_ ?_)
 ·first | trivial | simp
 refine .seq (.rgn [] (by simp only [go_sem, seval, ab_, aa_]; rfl) ?_ ?_)
 ·first | trivial | simp
 refine .seq (.seq (.rgn [] (by simp only [go_sem, seval, ab_, aa_]; rfl) ?_ ?_))
 ·first | trivial | simp
 refine .block (.loopK (fun q : Nat × Nat × List Str => ⟨[.s s, .i .u8 10, .no, .no, .no, .ow 18 1 0 q.2.2.length, .i .i64 q.2.1, .i .i64 q.1, .no, .no, .no, .no, .no, .no, .no, .no, .no, .no, .no, .no, .no, .no, .no, .no, .no, .no, .no, .no, .no, .no, .no, .no, .no, .no, .no, .no], aw_ [(18, ⟨9, 1, bm_ q.2.2⟩)], us [18]⟩) (fun q : Nat × Nat × List Str => q.1 ≤ s.length + 1 ∧ th_ s q.1 q.2) (fun q : Nat × Nat × List Str => s.length + 1 - q.1) ((0, 0, [])) ?_ ?_ (fun q hI => ?_))
 ·exact ⟨by simp, acv_ s⟩
 ·refine Can.trans (Can.ownSlot 5 18 9 1 (by simp only [go_sem, seval, ab_, aa_] <;> rfl) (by simp only [go_sem, seval, ab_, aa_]) (by simp only [go_sem, seval, ab_, aa_] <;> rfl)) ?_
  exact Can.weak (Weak.lit (by simp only [go_sem, seval, ab_, aa_, an_, leV, al_, am_, V.inn, us, true_or, or_true] <;> ((try simp))) (by simp only [go_sem, seval, ab_, aa_, an_, leV, al_, am_, V.inn, us, true_or, or_true]) (by simp only [go_sem, seval, ab_, aa_, an_, leV, al_, am_, V.inn, us, true_or, or_true] <;> ((try simp [bm_]))))
 refine .seq (.seq (.rgn [] (by simp only [go_sem, seval, ab_, aa_]; rfl) ?_ ?_))
 ·first | trivial | simp
 refine .condB (by simp only [go_sem, seval, ab_, aa_]; rfl) (by simp only [go_sem, seval, ab_, aa_]) (fun h12 => ?_) (fun h12 => ?_)
 ·refine .skip (.seqJ (fun p : Nat × List Str => ⟨[.s s, .i .u8 10, .no, .no, .no, .ow 18 1 0 p.2.length, .i .i64 p.1, .i .i64 q.1, .no, .no, .no, .no, .no, .no, .no, .no, .no, .no, .no, .no, .no, .no, .no, .no, .no, .no, .no, .no, .no, .no, .no, .no, .no, .no, .no, .no], aw_ [(18, ⟨9, 1, bm_ p.2⟩)], us [18]⟩) (fun p : Nat × List Str => th_ s (q.1 + 1) p) ?_ (fun p hJ => ?_))
  ·refine .block (.seq (.rgn [] (by simp only [go_sem, seval, ab_, aa_]; rfl) ?_ ?_))
   ·simp only [decide_eq_true_eq] at h12; exact ⟨fun h => ⟨h, by omega, by simp only [Bool.not_eq_true', beq_eq_false_iff_ne] at h; omega⟩, fun h => by rw [h]; rfl⟩
   refine .condB (by simp only [go_sem, seval, ab_, aa_]; rfl) (by simp only [go_sem, seval, ab_, aa_]) (fun h25 => ?_) (fun h25 => ?_)
   ·refine .seq (.rgn [] (by simp only [go_sem, seval, ab_, aa_]; rfl) ?_ ?_)
    ·simp only [decide_eq_true_eq] at h12; have h1 := hI.2.1; have h2 := hI.2.2.1; refine ⟨⟨by omega, by omega, by omega, by omega, by simp⟩, by simp, by simp, by omega⟩
    refine .rgn [] (by simp only [go_sem, seval, ab_, aa_]; rfl) ?_ ?_
    ·first | trivial | simp
    refine Exists.intro ((q.1 + 1, q.2.2 ++ [(s.drop q.2.1).take (q.1 - q.2.1)])) ⟨?_, ?_⟩
    ·simp only [decide_eq_true_eq] at h12; first | (refine agr_ hI.2 (by omega) ?_; simp only [Bool.or_eq_true, beq_iff_eq] at h25; rcases h25 with h | h; exact .inl (by omega); exact .inr (r0_.1 h)) | (simp only [Bool.or_eq_false_iff, beq_eq_false_iff_ne] at h25; exact agm_ hI.2 (by omega) (fun e => h25.2 (r0_.2 e)))
    refine Can.trans (Can.swap 42 18 (by decide) (by decide) (by decide) (by decide) (by simp only [go_sem, seval, ab_, aa_, V.cl]) (by simp only [go_sem, seval, ab_, aa_, V.cl]) (by simp only [go_sem, seval, ab_, aa_, bn_, sw, swM, rnB] <;> rfl) (by simp only [go_sem, seval, ab_, aa_, bn_, sw, swM, rnB] <;> rfl) (by simp only [go_sem, seval, ab_, aa_, bn_, sw, swM, rnB] <;> rfl)) ?_
    exact Can.weak (Weak.lit (by simp only [go_sem, seval, ab_, aa_, an_, leV, al_, am_, V.inn, us, true_or, or_true] <;> (first | rfl | (refine ⟨by simp, ?_⟩; simp only [decide_eq_true_eq] at h12; exact hb_ (q.1 + 1) (by omega)))) (by simp only [go_sem, seval, ab_, aa_, an_, leV, al_, am_, V.inn, us, true_or, or_true]) (by simp only [go_sem, seval, ab_, aa_, an_, leV, al_, am_, V.inn, us, true_or, or_true] <;> (first | rfl | (rw [List.drop_take, nv_]; rfl))))
   ·refine .skip ?_
    refine Exists.intro ((q.2.1, q.2.2)) ⟨?_, ?_⟩
    ·simp only [decide_eq_true_eq] at h12; first | (refine agr_ hI.2 (by omega) ?_; simp only [Bool.or_eq_true, beq_iff_eq] at h25; rcases h25 with h | h; exact .inl (by omega); exact .inr (r0_.1 h)) | (simp only [Bool.or_eq_false_iff, beq_eq_false_iff_ne] at h25; exact agm_ hI.2 (by omega) (fun e => h25.2 (r0_.2 e)))
    exact Can.weak (Weak.lit (by simp only [go_sem, seval, ab_, aa_, an_, leV, al_, am_, V.inn, us, true_or, or_true] <;> (first | rfl | (refine ⟨by simp, ?_⟩; simp only [decide_eq_true_eq] at h12; exact hb_ (q.1 + 1) (by omega)))) (by simp only [go_sem, seval, ab_, aa_, an_, leV, al_, am_, V.inn, us, true_or, or_true]) (by simp only [go_sem, seval, ab_, aa_, an_, leV, al_, am_, V.inn, us, true_or, or_true] <;> (first | rfl | (rw [List.drop_take, nv_]; rfl))))
  refine .rgn [] (by simp only [go_sem, seval, ab_, aa_]; rfl) ?_ ?_
  ·first | trivial | simp
  refine Exists.intro ((q.1 + 1, p.1, p.2)) ⟨?_, ?_, ?_⟩
  ·simp only [decide_eq_true_eq] at h12; exact ⟨by dsimp only; omega, hJ⟩
  ·simp at h12; dsimp only; omega
  exact Can.weak (Weak.lit (by simp only [go_sem, seval, ab_, aa_, an_, leV, al_, am_, V.inn, us, true_or, or_true] <;> (rw [bc_ (by simp at h12; omega) (by simp at h12; omega)]; (try simp))) (by simp only [go_sem, seval, ab_, aa_, an_, leV, al_, am_, V.inn, us, true_or, or_true]) (by simp only [go_sem, seval, ab_, aa_, an_, leV, al_, am_, V.inn, us, true_or, or_true] <;> ((try simp))))
 ·refine .exit (.seq (.rgn [] (by simp only [go_sem, seval, ab_, aa_]; rfl) ?_ ?_))
  ·first | trivial | simp
  refine .frz 18 (by simp only [go_sem, seval, ab_, aa_]; rfl) (by simp only [go_sem, seval, ab_, aa_]) (by simp only [go_sem, seval, ab_, aa_]; rfl) (by simp only [go_sem, seval, ab_, aa_]; rfl) ?_
  refine .ret ⟨.inr rfl, ?_⟩
  exact Out.plainL (by simp only [Tryz.results122]; rfl) (by simp only [aq_, a8_, go_sem, seval, ab_, aa_] <;> (split <;> rfl)) (by simp only [a7_, go_sem, seval, ab_, aa_] <;> (simp only [decide_eq_false_iff_not] at h12; have e := aec_ hI.2 (by omega); rw [← e]; simp [peel, leV, ba_, ab_, List.take_of_length_le])) (by simp only [go_sem, seval, ab_, aa_])
theorem sd_ (s : Str) (hs : s.length ≤ 281474976710656) : ACall En 70 [.s s] [] [.sl false (bm_ (dx_ s))] [] := by
 refine ah_ (fn := Tryz.f70) [] Tryz.func70 rfl rfl (by simp) fun C => ?_
 rw [ar_]
 simp only [Tryz.ntmps70, List.length_cons, List.length_nil, Nat.reduceAdd, Nat.reduceSub, List.replicate_succ, List.replicate_zero, List.cons_append, List.nil_append, bd_]
 refine .seq (.rgn [] (by simp only [go_sem, seval, aa_]; rfl) ?_ ?_)
 ·(first | trivial | (simp; done) | (simpa using h5))
 refine .seq (.seq (.rgn [a2_ (qy_ s hs)] (by simp only [go_sem, seval, aa_]; rfl) ?_ ?_))
 ·(first | trivial | (simp; done) | (simpa using h5))
 refine .condB (by simp only [go_sem, seval, aa_]; rfl) (by simp only [go_sem, seval, aa_]) (fun h5 => ?_) (fun h5 => ?_)
 ·refine .seq (.rgn [] (by simp only [go_sem, seval, aa_]; rfl) ?_ ?_)
  ·(first | trivial | (simp; done) | (simpa using h5))
  refine .ret ⟨.inr rfl, ?_⟩
  exact Out.plainL (by simp only [Tryz.results70]; rfl) (by simp only [aq_, a8_, go_sem, seval, aa_] <;> (split <;> rfl)) (by simp only [a7_, go_sem, seval, aa_] <;> (simp at h5; simp [dx_, h5, bm_, ler])) (by simp only [go_sem, seval, aa_])
 ·refine .skip (.seq (.rgn [c1_ (tOk s = true) (fun h => sr_ s (nd_ h))] (by simp only [go_sem, seval, aa_]; rfl) ?_ ?_))
  ·(first | trivial | (simp; done) | (simpa using h5))
  refine .ret ⟨.inr rfl, ?_⟩
  exact Out.plainL (by simp only [Tryz.results70]; rfl) (by simp only [aq_, a8_, go_sem, seval, aa_] <;> (split <;> rfl)) (by simp only [a7_, go_sem, seval, aa_] <;> (simp at h5; simp [dx_, h5, ba_, leV])) (by simp only [go_sem, seval, aa_])
end
section
set_option maxRecDepth 100000
set_option maxHeartbeats 4000000
end
section
set_option maxRecDepth 100000
set_option maxHeartbeats 4000000
theorem t9_ {α : Type} {d : α} {a b : List α} {k : Nat} (ha : k < a.length) (hb : k < b.length) (h : a.take k = b.take k) (e : a.getD k d = b.getD k d) : a.take (k + 1) = b.take (k + 1) := by
 rw [List.take_add_one (l := a), List.take_add_one (l := b), h, List.getElem?_eq_getElem ha, List.getElem?_eq_getElem hb]
 rw [List.getD_eq_getElem?_getD, List.getD_eq_getElem?_getD, List.getElem?_eq_getElem ha, List.getElem?_eq_getElem hb] at e
 rw [show a[k] = b[k] by simpa using e]
theorem ab3_ (a b : List Int) (ha : a.length ≤ 1000000000000) (hb : b.length ≤ 1000000000000) : ACall En 127 [.sl false (inR a), .sl false (inR b)] [] [.b (a == b)] [] := by
 refine ah_ (fn := Tryz.f127) [] Tryz.func127 rfl rfl (by simp) fun C => ?_
 rw [ar_]
 simp only [Tryz.ntmps127, List.length_cons, List.length_nil, Nat.reduceAdd, Nat.reduceSub, List.replicate_succ, List.replicate_zero, List.cons_append, List.nil_append, bd_]
 refine .seq (.rgn [] (by simp only [go_sem, seval, af_, ac_]; rfl) ?_ ?_)
 ·first | trivial | simp
 refine .seq (.seq (.rgn [] (by simp only [go_sem, seval, af_, ac_]; rfl) ?_ ?_))
 ·first | trivial | simp
 refine .condB (by simp only [go_sem, seval, af_, ac_]; rfl) (by simp only [go_sem, seval, af_, ac_]) (fun h10 => ?_) (fun h10 => ?_)
 ·refine .seq (.rgn [] (by simp only [go_sem, seval, af_, ac_]; rfl) ?_ ?_)
  ·first | trivial | simp
  refine .ret ⟨.inr rfl, ?_⟩
  exact Out.plain (by simp only [Tryz.results127]; rfl) (by simp only [aq_, a8_, go_sem, seval, af_, ac_] <;> (split <;> rfl)) (by simp only [a7_, go_sem, seval, af_, ac_] <;> (have : a ≠ b := (fun e => by simp [e] at h10); simp [this])) (by simp only [go_sem, seval, af_, ac_])
 ·refine .skip (.seq (.seq (.rgn [] (by simp only [go_sem, seval, af_, ac_]; rfl) ?_ ?_)))
  ·first | trivial | simp
  refine .block (.loopK (fun k : Nat => ⟨[.sl false (inR a), .sl false (inR b), .no, .no, .no, .i .i64 k, .no, .no, .no, .no, .no, .no, .no, .no, .no, .no, .no, .no, .no, .no, .no, .no, .no, .no, .no, .no], aw_ [], us []⟩) (fun k : Nat => k ≤ a.length ∧ a.take k = b.take k) (fun k : Nat => a.length - k) (0) ?_ ?_ (fun k hI => ?_))
  ·exact ⟨Nat.zero_le _, rfl⟩
  ·exact Can.weak (Weak.lit (by simp only [go_sem, seval, af_, ac_, an_, leV, al_, am_, V.inn, us, true_or, or_true] <;> (simp)) (by simp only [go_sem, seval, af_, ac_, an_, leV, al_, am_, V.inn, us, true_or, or_true]) (by simp only [go_sem, seval, af_, ac_, an_, leV, al_, am_, V.inn, us, true_or, or_true]))
  refine .seq (.seq (.rgn [] (by simp only [go_sem, seval, af_, ac_]; rfl) ?_ ?_))
  ·first | trivial | simp
  refine .condB (by simp only [go_sem, seval, af_, ac_]; rfl) (by simp only [go_sem, seval, af_, ac_]) (fun h14 => ?_) (fun h14 => ?_)
  ·refine .skip (.seq (.block (.seq (.rgnD [] enM (by simp only [go_sem, seval, af_, ac_, hc_ (show k < a.length by simpa using h14), hc_ (show k < b.length by simp at h14 h10; omega)]; rfl) (by rfl) ?_ ?_))))
   ·simp at h14 h10; simp; omega
   refine .condB (by simp only [go_sem, seval, af_, ac_]; rfl) (by simp only [go_sem, seval, af_, ac_]) (fun h25 => ?_) (fun h25 => ?_)
   ·refine .seq (.rgn [] (by simp only [go_sem, seval, af_, ac_]; rfl) ?_ ?_)
    ·first | trivial | simp
    refine .ret ⟨.inr rfl, ?_⟩
    exact Out.plain (by simp only [Tryz.results127]; rfl) (by simp only [aq_, a8_, go_sem, seval, af_, ac_] <;> (split <;> rfl)) (by simp only [a7_, go_sem, seval, af_, ac_] <;> (have h2 : a.getD k 0 ≠ b.getD k 0 := bne_iff_ne.1 h25; have : a ≠ b := (fun e => h2 (by rw [e])); simp [this])) (by simp only [go_sem, seval, af_, ac_])
   ·refine .skip (.rgn [] (by simp only [go_sem, seval, af_, ac_]; rfl) ?_ ?_)
    ·first | trivial | simp
    refine Exists.intro (k + 1) ⟨?_, ?_, ?_⟩
    ·simp only [decide_eq_true_eq] at h14; simp at h10; exact ⟨by omega, t9_ (d := 0) (by omega) (by omega) hI.2 (by simpa using h25)⟩
    ·simp at h14; omega
    exact Can.weak (Weak.lit (by simp only [go_sem, seval, af_, ac_, an_, leV, al_, am_, V.inn, us, true_or, or_true] <;> (rw [bc_ (by simp at h14; omega) (by simp at h14; omega)]; simp)) (by simp only [go_sem, seval, af_, ac_, an_, leV, al_, am_, V.inn, us, true_or, or_true]) (by simp only [go_sem, seval, af_, ac_, an_, leV, al_, am_, V.inn, us, true_or, or_true]))
  ·refine .exit (.seq (.rgn [] (by simp only [go_sem, seval, af_, ac_]; rfl) ?_ ?_))
   ·first | trivial | simp
   refine .ret ⟨.inr rfl, ?_⟩
   exact Out.plain (by simp only [Tryz.results127]; rfl) (by simp only [aq_, a8_, go_sem, seval, af_, ac_] <;> (split <;> rfl)) (by simp only [a7_, go_sem, seval, af_, ac_] <;> (simp only [decide_eq_false_iff_not] at h14; simp at h10; have q := hI.2; rw [List.take_of_length_le (by omega), List.take_of_length_le (by omega)] at q; simp [q])) (by simp only [go_sem, seval, af_, ac_])
def g8_ (k : Int) (n : Nat) : List Int := (List.range n).map fun (i : Nat) => k + (i : Int)
theorem by_ (k : Int) (n : Nat) : (g8_ k n).length = n := by simp [g8_]
theorem abi_ {k : Int} {n i : Nat} (h : i < n) : (g8_ k n).getD i 0 = k + i := by
 simp [g8_, List.getD_eq_getElem?_getD, h]
theorem y6_ {k : Int} {l : List Int} {i : Nat} (h : i < l.length) : (inR (g8_ k i ++ l.drop i)).set i (.i .i64 (k + i) :: ((inR (g8_ k i ++ l.drop i)).getD i []).drop 1) = inR (g8_ k (i + 1) ++ l.drop (i + 1)) := by
 rw [hc_ (by rw [List.length_append, by_, List.length_drop]; omega)]
 have e : (g8_ k i ++ l.drop i).set i (k + i) = g8_ k (i + 1) ++ l.drop (i + 1) := by
  rw [List.set_append_right _ _ (by rw [by_]; exact Nat.le_refl _), by_, Nat.sub_self, List.drop_eq_getElem_cons h, List.set_cons_zero]
  simp [g8_, List.range_succ]
 rw [← e]
 simp only [inR, List.map_set, List.drop_succ_cons, List.drop_nil]
theorem vt_ (n : Nat) (k : Int) (hl : n ≤ 1000000) (h0 : 0 ≤ k) (h1 : k ≤ 1000000) : ACall En 76 [.sl false (inR (g8_ k n)), .i .i64 k] [] [.i .i64 (k + n)] [] := by
 refine ah_ (fn := Tryz.f76) [] Tryz.func76 rfl rfl (by simp) fun C => ?_
 rw [ar_]
 simp only [Tryz.ntmps76, List.length_cons, List.length_nil, Nat.reduceAdd, Nat.reduceSub, List.replicate_succ, List.replicate_zero, List.cons_append, List.nil_append, bd_]
 refine .seq (.rgn [] (by simp only [go_sem, seval, af_, ac_, by_]; rfl) ?_ ?_)
 ·(first | trivial | (simp; done) | (simp only [decide_eq_true_eq] at h9; simp [af_, by_]; omega))
 refine .seq (.seq (.rgn [] (by simp only [go_sem, seval, af_, ac_, by_]; rfl) ?_ ?_))
 ·(first | trivial | (simp; done) | (simp only [decide_eq_true_eq] at h9; simp [af_, by_]; omega))
 refine .block (.loopK (fun i : Nat => ⟨[.sl false (inR (g8_ k n)), .i .i64 (k + i), .no, .no, .no, .i .i64 i, .no, .no, .no, .no, .no, .no, .no, .no, .no, .no, .no, .no, .no, .no, .no], aw_ [], us []⟩) (fun i : Nat => i ≤ n) (fun i : Nat => n - i) (0) ?_ ?_ (fun i hI => ?_))
 ·simp
 ·exact Can.weak (Weak.lit (by simp only [go_sem, seval, af_, ac_, by_, an_, leV, al_, am_, V.inn, us, true_or, or_true] <;> ((try simp))) (by simp only [go_sem, seval, af_, ac_, by_, an_, leV, al_, am_, V.inn, us, true_or, or_true]) (by simp only [go_sem, seval, af_, ac_, by_, an_, leV, al_, am_, V.inn, us, true_or, or_true]))
 refine .seq (.seq (.rgn [] (by simp only [go_sem, seval, af_, ac_, by_]; rfl) ?_ ?_))
 ·(first | trivial | (simp; done) | (simp only [decide_eq_true_eq] at h9; simp [af_, by_]; omega))
 refine .condB (by simp only [go_sem, seval, af_, ac_, by_]; rfl) (by simp only [go_sem, seval, af_, ac_, by_]) (fun h9 => ?_) (fun h9 => ?_)
 ·refine .skip (.seq (.block (.seq (.seq (.rgn [] (by simp only [go_sem, seval, af_, ac_, by_, hc_ (show i < (g8_ k n).length by rw [by_]; simpa using h9), abi_ (show i < n by simpa using h9)]; rfl) ?_ ?_)))))
  ·(first | trivial | (simp; done) | (simp only [decide_eq_true_eq] at h9; simp [af_, by_]; omega))
  refine .condB (by simp only [go_sem, seval, af_, ac_, by_]; rfl) (by simp only [go_sem, seval, af_, ac_, by_]) (fun h17 => ?_) (fun h17 => ?_)
  ·simp at h17
  ·refine .skip (.rgn [] (by simp only [go_sem, seval, af_, ac_, by_]; rfl) ?_ ?_)
   ·(first | trivial | (simp; done) | (simp only [decide_eq_true_eq] at h9; simp [af_, by_]; omega))
   refine .rgn [] (by simp only [go_sem, seval, af_, ac_, by_]; rfl) ?_ ?_
   ·(first | trivial | (simp; done) | (simp only [decide_eq_true_eq] at h9; simp [af_, by_]; omega))
   refine Exists.intro (i + 1) ⟨?_, ?_, ?_⟩
   ·simp only [decide_eq_true_eq] at h9; omega
   ·simp only [decide_eq_true_eq] at h9; omega
   exact Can.weak (Weak.lit (by simp only [go_sem, seval, af_, ac_, by_, an_, leV, al_, am_, V.inn, us, true_or, or_true] <;> (simp only [decide_eq_true_eq] at h9; exact ⟨by rw [bc_ (by omega) (by omega)]; omega, bc_ (n := ((i + 1 : Nat) : Int)) (by omega) (by omega)⟩)) (by simp only [go_sem, seval, af_, ac_, by_, an_, leV, al_, am_, V.inn, us, true_or, or_true]) (by simp only [go_sem, seval, af_, ac_, by_, an_, leV, al_, am_, V.inn, us, true_or, or_true]))
 ·refine .exit (.seq (.rgn [] (by simp only [go_sem, seval, af_, ac_, by_]; rfl) ?_ ?_))
  ·(first | trivial | (simp; done) | (simp only [decide_eq_true_eq] at h9; simp [af_, by_]; omega))
  refine .ret ⟨.inr rfl, ?_⟩
  exact Out.plain (by simp only [Tryz.results76]; rfl) (by simp only [aq_, a8_, go_sem, seval, af_, ac_, by_] <;> (split <;> rfl)) (by simp only [a7_, go_sem, seval, af_, ac_, by_] <;> (simp only [decide_eq_false_iff_not] at h9; rw [show (i : Int) = n by omega])) (by simp only [go_sem, seval, af_, ac_, by_])
end
section
set_option maxRecDepth 100000
set_option maxHeartbeats 4000000
def torn (b : Str) (p : Int) (l : List Str) (s : Str) : Str :=
 s.take (kq_ b p s.length).toNat ++ ofI b (p + 1) l ++ s.drop ((kq_ b p s.length).toNat + (kq_ b (p + 1 + 1) 2).toNat)
end
end Go.Proofs.YtefmbmafdgedmaaGreatDoor
