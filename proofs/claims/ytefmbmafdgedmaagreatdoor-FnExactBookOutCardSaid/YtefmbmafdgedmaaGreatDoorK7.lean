/- Texts and their lines: the reference's TextOk, TextLines. Conditions: none. -/
import Derived.Test.YtefmbmafdgedmaaGreatDoorK6
import Derived.Test.YtefmbmafdgedmaaGreatDoorKv
import Derived.Test.YtefmbmafdgedmaaGreatDoorKy
import Derived.Test.YtefmbmafdgedmaaGreatDoorKt
import Derived.Test.YtefmbmafdgedmaaGreatDoorKx
import Derived.Test.YtefmbmafdgedmaaGreatDoorK4
set_option linter.unusedVariables false
set_option linter.unusedSimpArgs false
namespace Go.Proofs.YtefmbmafdgedmaaGreatDoor
section
set_option maxRecDepth 100000
set_option maxHeartbeats 4000000
def v9_ (s : Str) (i : Nat) (p : Nat × List Str) : Prop :=
 p.1 ≤ i ∧ p.2.length ≤ i ∧ (i ≤ s.length → p.2 ++ spl (s.drop p.1) = spl s ∧ (10 : UInt8) ∉ (s.drop p.1).take (i - p.1)) ∧ (s.length < i → p.2 = spl s)
theorem ahg_ (s : Str) : v9_ s 0 (0, []) := ⟨Nat.le_refl _, Nat.le_refl _, fun _ => ⟨rfl, by simp⟩, fun h => absurd h (by omega)⟩
theorem alr_ {s : Str} {a i : Nat} (ha : a ≤ i) (hi : i < s.length) : s.drop a = (s.drop a).take (i - a) ++ s.getD i 0 :: s.drop (i + 1) := by
 conv => lhs; rw [← List.take_append_drop (i - a) (s.drop a)]
 rw [List.drop_drop, show a + (i - a) = i by omega, List.drop_eq_getElem_cons hi, T8_, T6_ hi]; rfl
theorem akx_ {s : Str} {i : Nat} {p : Nat × List Str} (h : v9_ s i p) (hi : i ≤ s.length) (hc : i = s.length ∨ s.getD i 0 = 10) : v9_ s (i + 1) (i + 1, p.2 ++ [(s.drop p.1).take (i - p.1)]) := by
 obtain ⟨h1, h2, h3, -⟩ := h
 obtain ⟨h3, h4⟩ := h3 hi
 refine ⟨Nat.le_refl _, by simp; omega, fun hl => ?_, fun hl => ?_⟩
 ·have h10 : s.getD i 0 = 10 := by
   rcases hc with hc | hc
   ·omega
   ·exact hc
  refine ⟨?_, by simp⟩
  rw [alr_ h1 (by omega), h10, t5_ h4] at h3
  dsimp only
  rw [List.append_assoc]; exact h3
 ·have hil : i = s.length := by omega
  have e : (s.drop p.1).take (i - p.1) = s.drop p.1 := T1_ (by rw [List.length_drop]; omega)
  rw [e] at h4 ⊢
  rw [qb_ h4] at h3
  exact h3
theorem akn_ {s : Str} {i : Nat} {p : Nat × List Str} (h : v9_ s i p) (hi : i < s.length) (hc : s.getD i 0 ≠ 10) : v9_ s (i + 1) p := by
 obtain ⟨h1, h2, h3, -⟩ := h
 obtain ⟨h3, h4⟩ := h3 (by omega)
 refine ⟨by omega, by omega, fun _ => ⟨h3, ?_⟩, fun hl => by omega⟩
 rw [show i + 1 - p.1 = (i - p.1) + 1 by omega, List.take_add_one, List.getElem?_drop, show p.1 + (i - p.1) = i by omega, T6_ hi]
 rw [T8_, T6_ hi] at hc
 simp only [Option.toList_some, List.mem_append, List.mem_singleton, not_or]
 exact ⟨h4, fun e => hc e.symm⟩
theorem ah5_ {s : Str} {i : Nat} {p : Nat × List Str} (h : v9_ s i p) (hi : ¬ i ≤ s.length) : p.2 = spl s := h.2.2.2 (by omega)
theorem tt_ {c : UInt8} : ((c.toNat : Int) = 10) ↔ c = 10 := ⟨fun h => by apply UInt8.toNat_inj.1; show _ = 10; omega, fun h => by rw [h]; rfl⟩
theorem nu_ (s : Str) (hs : s.length ≤ 281474976710656) : ACall En 121 [.s s] [] [.b (tOk s)] [] := by
 refine ao_ (fn := Tryz.f121) [] Tryz.func121 rfl rfl (by simp) fun C => ?_
 rw [bb_]
 simp only [Tryz.ntmps121, T7_, List.length_nil, Nat.reduceAdd, Nat.reduceSub, List.replicate_succ, List.replicate_zero, List.cons_append, List.nil_append, bu_]
 refine .seq (.rgn [] (by simp only [go_sem, seval]; rfl) ?_ ?_)
 ·first | trivial | simp
 refine .seq (.rgn [] (by simp only [go_sem, seval]; rfl) ?_ ?_)
 ·first | trivial | simp
 refine .seq (.seq (.rgn [] (by simp only [go_sem, seval]; rfl) ?_ ?_))
 ·first | trivial | simp
 refine .block (.loopK (fun q : Nat × Int => ⟨[.s s, .no, .no, .i .i64 q.2, .i .i64 q.1, .no, .no, .no, .no, .no, .no, .no, .no, .no, .no, .no, .no, .no, .no, .no, .no, .no, .no, .no, .no, .no, .no, .no, .no, .no, .no, .no, .no, .no, .no, .no, .no, .no], bk_ [], us []⟩) (fun q : Nat × Int => q.1 ≤ s.length ∧ 0 ≤ q.2 ∧ q.2 ≤ 120 ∧ jx_ (s.drop q.1) q.2 = jx_ s 0) (fun q : Nat × Int => s.length - q.1) ((0, 0)) ?_ ?_ (fun q hI => ?_))
 ·exact ⟨by simp, by decide, by decide, rfl⟩
 ·exact Can.weak (Weak.lit (by simp only [go_sem, seval, ay_, leV, aw_, ax_, V.inn, us, T9_, Ta_] <;> (simp)) (by simp only [go_sem, seval, ay_, leV, aw_, ax_, V.inn, us, T9_, Ta_]) (by simp only [go_sem, seval, ay_, leV, aw_, ax_, V.inn, us, T9_, Ta_]))
 refine .seq (.seq (.rgn [] (by simp only [go_sem, seval]; rfl) ?_ ?_))
 ·first | trivial | simp
 refine .condB (by simp only [go_sem, seval]; rfl) (by simp only [go_sem, seval]) (fun h8 => ?_) (fun h8 => ?_)
 ·refine .skip (.seq (.block (.seq (.seq (.rgn [] (by simp only [go_sem, seval]; rfl) ?_ ?_)))))
  ·simp only [T3_] at h8; exact ⟨⟨⟨by omega, fun h => ⟨h, by omega, by omega⟩⟩, fun h => ⟨h, by omega, by omega⟩⟩, fun h => ⟨h, fun h2 => by rw [h, h2]; rfl⟩⟩
  refine .condB (by simp only [go_sem, seval]; rfl) (by simp only [go_sem, seval]) (fun h26 => ?_) (fun h26 => ?_)
  ·refine .seq (.rgn [] (by simp only [go_sem, seval]; rfl) ?_ ?_)
   ·first | trivial | simp
   refine .ret ⟨.inr rfl, ?_⟩
   exact Out.plain (by simp only [Tryz.results121]; rfl) (by simp only [bd_, bo_, go_sem, seval] <;> (split <;> rfl)) (by simp only [bn_, go_sem, seval] <;> (simp only [T3_] at h8; rw [T5_] at h26; have hc := bne_iff_ne.1 h26.1; have e := ob_ (show q.1 < s.length by omega) (w := q.2) hc; rw [h26.2] at e; unfold tOk; rw [← hI.2.2.2, e]; rfl)) (by simp only [go_sem, seval])
  ·refine .skip (.seq (.rgn [] (by simp only [go_sem, seval]; rfl) ?_ ?_))
   ·first | trivial | simp
   refine .seqJ (fun p : Int => ⟨[.s s, .no, .no, .i .i64 p, .i .i64 q.1, .no, .no, .no, .no, .no, .no, .no, .no, .no, .no, .no, .no, .no, .no, .no, .no, .no, .no, .no, .no, .no, .no, .no, .no, .no, .no, .no, .no, .no, .no, .no, .no, .no], bk_ [], us []⟩) (fun p : Int => p = if ((s.getD q.1 0).toNat : Int) = 10 then 0 else q.2 + 1) ?_ (fun p hJ => ?_)
   ·refine .seq (.rgn [] (by simp only [go_sem, seval]; rfl) ?_ ?_)
    ·simp only [T3_] at h8; omega
    refine .condB (by simp only [go_sem, seval]; rfl) (by simp only [go_sem, seval]) (fun h32 => ?_) (fun h32 => ?_)
    ·refine .rgn [] (by simp only [go_sem, seval]; rfl) ?_ ?_
     ·first | trivial | simp
     refine Exists.intro (0) ⟨?_, ?_⟩
     ·first | (rw [if_pos (beq_iff_eq.1 h32)]) | (rw [if_neg (by rw [beq_eq_false_iff_ne] at h32; exact h32)])
     exact Can.weak (Weak.lit (by simp only [go_sem, seval, ay_, leV, aw_, ax_, V.inn, us, T9_, Ta_] <;> (exact bx_ (by omega) (by omega))) (by simp only [go_sem, seval, ay_, leV, aw_, ax_, V.inn, us, T9_, Ta_]) (by simp only [go_sem, seval, ay_, leV, aw_, ax_, V.inn, us, T9_, Ta_]))
    ·refine .skip ?_
     refine Exists.intro (q.2 + 1) ⟨?_, ?_⟩
     ·first | (rw [if_pos (beq_iff_eq.1 h32)]) | (rw [if_neg (by rw [beq_eq_false_iff_ne] at h32; exact h32)])
     exact Can.weak (Weak.lit (by simp only [go_sem, seval, ay_, leV, aw_, ax_, V.inn, us, T9_, Ta_] <;> (exact bx_ (by omega) (by omega))) (by simp only [go_sem, seval, ay_, leV, aw_, ax_, V.inn, us, T9_, Ta_]) (by simp only [go_sem, seval, ay_, leV, aw_, ax_, V.inn, us, T9_, Ta_]))
   refine .seq (.rgn [] (by simp only [go_sem, seval]; rfl) ?_ ?_)
   ·first | trivial | simp
   refine .condB (by simp only [go_sem, seval]; rfl) (by simp only [go_sem, seval]) (fun h34 => ?_) (fun h34 => ?_)
   ·refine .seq (.rgn [] (by simp only [go_sem, seval]; rfl) ?_ ?_)
    ·first | trivial | simp
    refine .ret ⟨.inr rfl, ?_⟩
    exact Out.plain (by simp only [Tryz.results121]; rfl) (by simp only [bd_, bo_, go_sem, seval] <;> (split <;> rfl)) (by simp only [bn_, go_sem, seval] <;> (simp only [T3_] at h8 h34; by_cases hc : ((s.getD q.1 0).toNat : Int) = 10; (rw [if_pos hc] at hJ; omega); (have e := ob_ (show q.1 < s.length by omega) (w := q.2) hc; rw [if_neg hc] at hJ; rw [decide_eq_true (show q.2 + 1 > 120 by omega)] at e; unfold tOk; rw [← hI.2.2.2, e]; simp))) (by simp only [go_sem, seval])
   ·refine .skip (.rgn [] (by simp only [go_sem, seval]; rfl) ?_ ?_)
    ·first | trivial | simp
    refine Exists.intro ((q.1 + 1, p)) ⟨?_, ?_, ?_⟩
    ·simp only [T3_] at h8; simp only [T4_] at h34; have e := pc_ (show q.1 < s.length by omega) q.2; by_cases hc : ((s.getD q.1 0).toNat : Int) = 10; (rw [if_pos hc] at e hJ; exact ⟨by dsimp only; omega, by dsimp only; omega, by dsimp only; omega, by dsimp only; rw [hJ, ← e]; exact hI.2.2.2⟩); (have e := ob_ (show q.1 < s.length by omega) (w := q.2) hc; rw [if_neg hc] at hJ; have h26' : (decide (((s.getD q.1 0).toNat : Int) < 32) || decide (((s.getD q.1 0).toNat : Int) > 126)) = false := (by rw [show (((s.getD q.1 0).toNat : Int) != 10) = true from bne_iff_ne.2 hc, Bool.true_and] at h26; exact h26); rw [h26', decide_eq_false (show ¬ q.2 + 1 > 120 by omega)] at e; exact ⟨by dsimp only; omega, by dsimp only; omega, by dsimp only; omega, by dsimp only; rw [hJ, ← hI.2.2.2, e]; rfl⟩)
    ·simp at h8; dsimp only; omega
    exact Can.weak (Weak.lit (by simp only [go_sem, seval, ay_, leV, aw_, ax_, V.inn, us, T9_, Ta_] <;> (rw [bx_ (by simp at h8; omega) (by simp at h8; omega)]; simp)) (by simp only [go_sem, seval, ay_, leV, aw_, ax_, V.inn, us, T9_, Ta_]) (by simp only [go_sem, seval, ay_, leV, aw_, ax_, V.inn, us, T9_, Ta_]))
 ·refine .exit (.seq (.rgn [] (by simp only [go_sem, seval]; rfl) ?_ ?_))
  ·first | trivial | simp
  refine .ret ⟨.inr rfl, ?_⟩
  exact Out.plain (by simp only [Tryz.results121]; rfl) (by simp only [bd_, bo_, go_sem, seval] <;> (split <;> rfl)) (by simp only [bn_, go_sem, seval] <;> (simp only [T4_] at h8; have e := hI.2.2.2; rw [List.drop_of_length_le (by omega)] at e; unfold tOk; rw [← e]; simp only [jx_, Bool.true_and]; rw [show decide ((s.length : Int) ≤ 4000) = decide (s.length ≤ 4000) from decide_eq_decide.2 (by omega)])) (by simp only [go_sem, seval])
theorem qw_ (s : Str) (hs : s.length ≤ 4000) : ACall En 122 [.s s, .i .u8 10] [] [.sl false (cb_ (spl s))] [] := by
 refine ao_ (fn := Tryz.f122) [] Tryz.func122 rfl rfl (by simp) fun C => ?_
 rw [bb_]
 simp only [Tryz.ntmps122, T7_, List.length_nil, Nat.reduceAdd, Nat.reduceSub, List.replicate_succ, List.replicate_zero, List.cons_append, List.nil_append, bu_]
 refine .seq (.rgn [] (by simp only [go_sem, seval, ab_, aa_]; rfl) ?_ ?_)
 ·first | trivial | simp
 refine .seq (.rgn [] (by simp only [go_sem, seval, ab_, aa_]; rfl) ?_ ?_)
 ·first | trivial | simp
 refine .seq (.rgn [] (by simp only [go_sem, seval, ab_, aa_]; rfl) ?_ ?_)
 ·first | trivial | simp
 refine .seq (.seq (.rgn [] (by simp only [go_sem, seval, ab_, aa_]; rfl) ?_ ?_))
 ·first | trivial | simp
 refine .block (.loopK (fun q : Nat × Nat × List Str => ⟨[.s s, .i .u8 10, .no, .no, .no, .ow 18 1 0 q.2.2.length, .i .i64 q.2.1, .i .i64 q.1, .no, .no, .no, .no, .no, .no, .no, .no, .no, .no, .no, .no, .no, .no, .no, .no, .no, .no, .no, .no, .no, .no, .no, .no, .no, .no, .no, .no], bk_ [(18, ⟨9, 1, cb_ q.2.2⟩)], us [18]⟩) (fun q : Nat × Nat × List Str => q.1 ≤ s.length + 1 ∧ v9_ s q.1 q.2) (fun q : Nat × Nat × List Str => s.length + 1 - q.1) ((0, 0, [])) ?_ ?_ (fun q hI => ?_))
 ·exact ⟨by simp, ahg_ s⟩
 ·refine Can.trans (Can.ownSlot 5 18 9 1 (by simp only [go_sem, seval, ab_, aa_] <;> rfl) (by simp only [go_sem, seval, ab_, aa_]) (by simp only [go_sem, seval, ab_, aa_] <;> rfl)) ?_
  exact Can.weak (Weak.lit (by simp only [go_sem, seval, ab_, aa_, ay_, leV, aw_, ax_, V.inn, us, T9_, Ta_] <;> ((try simp))) (by simp only [go_sem, seval, ab_, aa_, ay_, leV, aw_, ax_, V.inn, us, T9_, Ta_]) (by simp only [go_sem, seval, ab_, aa_, ay_, leV, aw_, ax_, V.inn, us, T9_, Ta_] <;> ((try simp [cb_]))))
 refine .seq (.seq (.rgn [] (by simp only [go_sem, seval, ab_, aa_]; rfl) ?_ ?_))
 ·first | trivial | simp
 refine .condB (by simp only [go_sem, seval, ab_, aa_]; rfl) (by simp only [go_sem, seval, ab_, aa_]) (fun h12 => ?_) (fun h12 => ?_)
 ·refine .skip (.seqJ (fun p : Nat × List Str => ⟨[.s s, .i .u8 10, .no, .no, .no, .ow 18 1 0 p.2.length, .i .i64 p.1, .i .i64 q.1, .no, .no, .no, .no, .no, .no, .no, .no, .no, .no, .no, .no, .no, .no, .no, .no, .no, .no, .no, .no, .no, .no, .no, .no, .no, .no, .no, .no], bk_ [(18, ⟨9, 1, cb_ p.2⟩)], us [18]⟩) (fun p : Nat × List Str => v9_ s (q.1 + 1) p) ?_ (fun p hJ => ?_))
  ·refine .block (.seq (.rgn [] (by simp only [go_sem, seval, ab_, aa_]; rfl) ?_ ?_))
   ·simp only [T3_] at h12; exact ⟨fun h => ⟨h, by omega, by simp only [Bool.not_eq_true', beq_eq_false_iff_ne] at h; omega⟩, fun h => by rw [h]; rfl⟩
   refine .condB (by simp only [go_sem, seval, ab_, aa_]; rfl) (by simp only [go_sem, seval, ab_, aa_]) (fun h25 => ?_) (fun h25 => ?_)
   ·refine .seq (.rgn [] (by simp only [go_sem, seval, ab_, aa_]; rfl) ?_ ?_)
    ·simp only [T3_] at h12; have h1 := hI.2.1; have h2 := hI.2.2.1; refine ⟨⟨by omega, by omega, by omega, by omega, by simp⟩, by simp, by simp, by omega⟩
    refine .rgn [] (by simp only [go_sem, seval, ab_, aa_]; rfl) ?_ ?_
    ·first | trivial | simp
    refine Exists.intro ((q.1 + 1, q.2.2 ++ [(s.drop q.2.1).take (q.1 - q.2.1)])) ⟨?_, ?_⟩
    ·simp only [T3_] at h12; first | (refine akx_ hI.2 (by omega) ?_; simp only [Bool.or_eq_true, beq_iff_eq] at h25; rcases h25 with h | h; exact .inl (by omega); exact .inr (tt_.1 h)) | (simp only [Bool.or_eq_false_iff, beq_eq_false_iff_ne] at h25; exact akn_ hI.2 (by omega) (fun e => h25.2 (tt_.2 e)))
    refine Can.trans (Can.swap 42 18 (by decide) (by decide) (by decide) (by decide) (by simp only [go_sem, seval, ab_, aa_, V.cl]) (by simp only [go_sem, seval, ab_, aa_, V.cl]) (by simp only [go_sem, seval, ab_, aa_, b5_, sw, swM, rnB] <;> rfl) (by simp only [go_sem, seval, ab_, aa_, b5_, sw, swM, rnB] <;> rfl) (by simp only [go_sem, seval, ab_, aa_, b5_, sw, swM, rnB] <;> rfl)) ?_
    exact Can.weak (Weak.lit (by simp only [go_sem, seval, ab_, aa_, ay_, leV, aw_, ax_, V.inn, us, T9_, Ta_] <;> (first | rfl | (refine ⟨by simp, ?_⟩; simp only [T3_] at h12; exact ig_ (q.1 + 1) (by omega)))) (by simp only [go_sem, seval, ab_, aa_, ay_, leV, aw_, ax_, V.inn, us, T9_, Ta_]) (by simp only [go_sem, seval, ab_, aa_, ay_, leV, aw_, ax_, V.inn, us, T9_, Ta_] <;> (first | rfl | (rw [List.drop_take, qe_]; rfl))))
   ·refine .skip ?_
    refine Exists.intro ((q.2.1, q.2.2)) ⟨?_, ?_⟩
    ·simp only [T3_] at h12; first | (refine akx_ hI.2 (by omega) ?_; simp only [Bool.or_eq_true, beq_iff_eq] at h25; rcases h25 with h | h; exact .inl (by omega); exact .inr (tt_.1 h)) | (simp only [Bool.or_eq_false_iff, beq_eq_false_iff_ne] at h25; exact akn_ hI.2 (by omega) (fun e => h25.2 (tt_.2 e)))
    exact Can.weak (Weak.lit (by simp only [go_sem, seval, ab_, aa_, ay_, leV, aw_, ax_, V.inn, us, T9_, Ta_] <;> (first | rfl | (refine ⟨by simp, ?_⟩; simp only [T3_] at h12; exact ig_ (q.1 + 1) (by omega)))) (by simp only [go_sem, seval, ab_, aa_, ay_, leV, aw_, ax_, V.inn, us, T9_, Ta_]) (by simp only [go_sem, seval, ab_, aa_, ay_, leV, aw_, ax_, V.inn, us, T9_, Ta_] <;> (first | rfl | (rw [List.drop_take, qe_]; rfl))))
  refine .rgn [] (by simp only [go_sem, seval, ab_, aa_]; rfl) ?_ ?_
  ·first | trivial | simp
  refine Exists.intro ((q.1 + 1, p.1, p.2)) ⟨?_, ?_, ?_⟩
  ·simp only [T3_] at h12; exact ⟨by dsimp only; omega, hJ⟩
  ·simp at h12; dsimp only; omega
  exact Can.weak (Weak.lit (by simp only [go_sem, seval, ab_, aa_, ay_, leV, aw_, ax_, V.inn, us, T9_, Ta_] <;> (rw [bx_ (by simp at h12; omega) (by simp at h12; omega)]; (try simp))) (by simp only [go_sem, seval, ab_, aa_, ay_, leV, aw_, ax_, V.inn, us, T9_, Ta_]) (by simp only [go_sem, seval, ab_, aa_, ay_, leV, aw_, ax_, V.inn, us, T9_, Ta_] <;> ((try simp))))
 ·refine .exit (.seq (.rgn [] (by simp only [go_sem, seval, ab_, aa_]; rfl) ?_ ?_))
  ·first | trivial | simp
  refine .frz 18 (by simp only [go_sem, seval, ab_, aa_]; rfl) (by simp only [go_sem, seval, ab_, aa_]) (by simp only [go_sem, seval, ab_, aa_]; rfl) (by simp only [go_sem, seval, ab_, aa_]; rfl) ?_
  refine .ret ⟨.inr rfl, ?_⟩
  exact Out.plainL (by simp only [Tryz.results122]; rfl) (by simp only [bd_, bo_, go_sem, seval, ab_, aa_] <;> (split <;> rfl)) (by simp only [bn_, go_sem, seval, ab_, aa_] <;> (simp only [T4_] at h12; have e := ah5_ hI.2 (by omega); rw [← e]; simp [peel, leV, by_, ab_, T1_])) (by simp only [go_sem, seval, ab_, aa_])
end
section
set_option maxRecDepth 100000
set_option maxHeartbeats 4000000
end
section
set_option maxRecDepth 100000
set_option maxHeartbeats 4000000
theorem mc_ {α : Type} {d : α} {a b : List α} {k : Nat} (ha : k < a.length) (hb : k < b.length) (h : a.take k = b.take k) (e : a.getD k d = b.getD k d) : a.take (k + 1) = b.take (k + 1) := by
 rw [List.take_add_one (l := a), List.take_add_one (l := b), h, T6_ ha, T6_ hb]
 rw [T8_, T8_, T6_ ha, T6_ hb] at e
 rw [show a[k] = b[k] by simpa using e]
theorem agg_ (a b : List Int) (ha : a.length ≤ 1000000000000) (hb : b.length ≤ 1000000000000) : ACall En 127 [.sl false (inR a), .sl false (inR b)] [] [.b (a == b)] [] := by
 refine ao_ (fn := Tryz.f127) [] Tryz.func127 rfl rfl (by simp) fun C => ?_
 rw [bb_]
 simp only [Tryz.ntmps127, T7_, List.length_nil, Nat.reduceAdd, Nat.reduceSub, List.replicate_succ, List.replicate_zero, List.cons_append, List.nil_append, bu_]
 refine .seq (.rgn [] (by simp only [go_sem, seval, ah_, ac_]; rfl) ?_ ?_)
 ·first | trivial | simp
 refine .seq (.seq (.rgn [] (by simp only [go_sem, seval, ah_, ac_]; rfl) ?_ ?_))
 ·first | trivial | simp
 refine .condB (by simp only [go_sem, seval, ah_, ac_]; rfl) (by simp only [go_sem, seval, ah_, ac_]) (fun h10 => ?_) (fun h10 => ?_)
 ·refine .seq (.rgn [] (by simp only [go_sem, seval, ah_, ac_]; rfl) ?_ ?_)
  ·first | trivial | simp
  refine .ret ⟨.inr rfl, ?_⟩
  exact Out.plain (by simp only [Tryz.results127]; rfl) (by simp only [bd_, bo_, go_sem, seval, ah_, ac_] <;> (split <;> rfl)) (by simp only [bn_, go_sem, seval, ah_, ac_] <;> (have : a ≠ b := (fun e => by simp [e] at h10); simp [this])) (by simp only [go_sem, seval, ah_, ac_])
 ·refine .skip (.seq (.seq (.rgn [] (by simp only [go_sem, seval, ah_, ac_]; rfl) ?_ ?_)))
  ·first | trivial | simp
  refine .block (.loopK (fun k : Nat => ⟨[.sl false (inR a), .sl false (inR b), .no, .no, .no, .i .i64 k, .no, .no, .no, .no, .no, .no, .no, .no, .no, .no, .no, .no, .no, .no, .no, .no, .no, .no, .no, .no], bk_ [], us []⟩) (fun k : Nat => k ≤ a.length ∧ a.take k = b.take k) (fun k : Nat => a.length - k) (0) ?_ ?_ (fun k hI => ?_))
  ·exact ⟨Nat.zero_le _, rfl⟩
  ·exact Can.weak (Weak.lit (by simp only [go_sem, seval, ah_, ac_, ay_, leV, aw_, ax_, V.inn, us, T9_, Ta_] <;> (simp)) (by simp only [go_sem, seval, ah_, ac_, ay_, leV, aw_, ax_, V.inn, us, T9_, Ta_]) (by simp only [go_sem, seval, ah_, ac_, ay_, leV, aw_, ax_, V.inn, us, T9_, Ta_]))
  refine .seq (.seq (.rgn [] (by simp only [go_sem, seval, ah_, ac_]; rfl) ?_ ?_))
  ·first | trivial | simp
  refine .condB (by simp only [go_sem, seval, ah_, ac_]; rfl) (by simp only [go_sem, seval, ah_, ac_]) (fun h14 => ?_) (fun h14 => ?_)
  ·refine .skip (.seq (.block (.seq (.rgnD [] enM (by simp only [go_sem, seval, ah_, ac_, el_ (show k < a.length by simpa using h14), el_ (show k < b.length by simp at h14 h10; omega)]; rfl) (by rfl) ?_ ?_))))
   ·simp at h14 h10; simp; omega
   refine .condB (by simp only [go_sem, seval, ah_, ac_]; rfl) (by simp only [go_sem, seval, ah_, ac_]) (fun h25 => ?_) (fun h25 => ?_)
   ·refine .seq (.rgn [] (by simp only [go_sem, seval, ah_, ac_]; rfl) ?_ ?_)
    ·first | trivial | simp
    refine .ret ⟨.inr rfl, ?_⟩
    exact Out.plain (by simp only [Tryz.results127]; rfl) (by simp only [bd_, bo_, go_sem, seval, ah_, ac_] <;> (split <;> rfl)) (by simp only [bn_, go_sem, seval, ah_, ac_] <;> (have h2 : a.getD k 0 ≠ b.getD k 0 := bne_iff_ne.1 h25; have : a ≠ b := (fun e => h2 (by rw [e])); simp [this])) (by simp only [go_sem, seval, ah_, ac_])
   ·refine .skip (.rgn [] (by simp only [go_sem, seval, ah_, ac_]; rfl) ?_ ?_)
    ·first | trivial | simp
    refine Exists.intro (k + 1) ⟨?_, ?_, ?_⟩
    ·simp only [T3_] at h14; simp at h10; exact ⟨by omega, mc_ (d := 0) (by omega) (by omega) hI.2 (by simpa using h25)⟩
    ·simp at h14; omega
    exact Can.weak (Weak.lit (by simp only [go_sem, seval, ah_, ac_, ay_, leV, aw_, ax_, V.inn, us, T9_, Ta_] <;> (rw [bx_ (by simp at h14; omega) (by simp at h14; omega)]; simp)) (by simp only [go_sem, seval, ah_, ac_, ay_, leV, aw_, ax_, V.inn, us, T9_, Ta_]) (by simp only [go_sem, seval, ah_, ac_, ay_, leV, aw_, ax_, V.inn, us, T9_, Ta_]))
  ·refine .exit (.seq (.rgn [] (by simp only [go_sem, seval, ah_, ac_]; rfl) ?_ ?_))
   ·first | trivial | simp
   refine .ret ⟨.inr rfl, ?_⟩
   exact Out.plain (by simp only [Tryz.results127]; rfl) (by simp only [bd_, bo_, go_sem, seval, ah_, ac_] <;> (split <;> rfl)) (by simp only [bn_, go_sem, seval, ah_, ac_] <;> (simp only [T4_] at h14; simp at h10; have q := hI.2; rw [T1_ (by omega), T1_ (by omega)] at q; simp [q])) (by simp only [go_sem, seval, ah_, ac_])
def h6_ (k : Int) (n : Nat) : List Int := (List.range n).map fun (i : Nat) => k + (i : Int)
theorem cj_ (k : Int) (n : Nat) : (h6_ k n).length = n := by simp [h6_]
theorem af4_ {k : Int} {n i : Nat} (h : i < n) : (h6_ k n).getD i 0 = k + i := by
 simp [h6_, T8_, h]
theorem ab0_ {k : Int} {l : List Int} {i : Nat} (h : i < l.length) : (inR (h6_ k i ++ l.drop i)).set i (.i .i64 (k + i) :: ((inR (h6_ k i ++ l.drop i)).getD i []).drop 1) = inR (h6_ k (i + 1) ++ l.drop (i + 1)) := by
 rw [el_ (by rw [T2_, cj_, List.length_drop]; omega)]
 have e : (h6_ k i ++ l.drop i).set i (k + i) = h6_ k (i + 1) ++ l.drop (i + 1) := by
  rw [List.set_append_right _ _ (by rw [cj_]; exact Nat.le_refl _), cj_, Nat.sub_self, List.drop_eq_getElem_cons h, List.set_cons_zero]
  simp [h6_, List.range_succ]
 rw [← e]
 simp only [inR, List.map_set, List.drop_succ_cons, List.drop_nil]
theorem x4_ (n : Nat) (k : Int) (hl : n ≤ 1000000) (h0 : 0 ≤ k) (h1 : k ≤ 1000000) : ACall En 76 [.sl false (inR (h6_ k n)), .i .i64 k] [] [.i .i64 (k + n)] [] := by
 refine ao_ (fn := Tryz.f76) [] Tryz.func76 rfl rfl (by simp) fun C => ?_
 rw [bb_]
 simp only [Tryz.ntmps76, T7_, List.length_nil, Nat.reduceAdd, Nat.reduceSub, List.replicate_succ, List.replicate_zero, List.cons_append, List.nil_append, bu_]
 refine .seq (.rgn [] (by simp only [go_sem, seval, ah_, ac_, cj_]; rfl) ?_ ?_)
 ·(first | trivial | (simp; done) | (simp only [T3_] at h9; simp [ah_, cj_]; omega))
 refine .seq (.seq (.rgn [] (by simp only [go_sem, seval, ah_, ac_, cj_]; rfl) ?_ ?_))
 ·(first | trivial | (simp; done) | (simp only [T3_] at h9; simp [ah_, cj_]; omega))
 refine .block (.loopK (fun i : Nat => ⟨[.sl false (inR (h6_ k n)), .i .i64 (k + i), .no, .no, .no, .i .i64 i, .no, .no, .no, .no, .no, .no, .no, .no, .no, .no, .no, .no, .no, .no, .no], bk_ [], us []⟩) (fun i : Nat => i ≤ n) (fun i : Nat => n - i) (0) ?_ ?_ (fun i hI => ?_))
 ·simp
 ·exact Can.weak (Weak.lit (by simp only [go_sem, seval, ah_, ac_, cj_, ay_, leV, aw_, ax_, V.inn, us, T9_, Ta_] <;> ((try simp))) (by simp only [go_sem, seval, ah_, ac_, cj_, ay_, leV, aw_, ax_, V.inn, us, T9_, Ta_]) (by simp only [go_sem, seval, ah_, ac_, cj_, ay_, leV, aw_, ax_, V.inn, us, T9_, Ta_]))
 refine .seq (.seq (.rgn [] (by simp only [go_sem, seval, ah_, ac_, cj_]; rfl) ?_ ?_))
 ·(first | trivial | (simp; done) | (simp only [T3_] at h9; simp [ah_, cj_]; omega))
 refine .condB (by simp only [go_sem, seval, ah_, ac_, cj_]; rfl) (by simp only [go_sem, seval, ah_, ac_, cj_]) (fun h9 => ?_) (fun h9 => ?_)
 ·refine .skip (.seq (.block (.seq (.seq (.rgn [] (by simp only [go_sem, seval, ah_, ac_, cj_, el_ (show i < (h6_ k n).length by rw [cj_]; simpa using h9), af4_ (show i < n by simpa using h9)]; rfl) ?_ ?_)))))
  ·(first | trivial | (simp; done) | (simp only [T3_] at h9; simp [ah_, cj_]; omega))
  refine .condB (by simp only [go_sem, seval, ah_, ac_, cj_]; rfl) (by simp only [go_sem, seval, ah_, ac_, cj_]) (fun h17 => ?_) (fun h17 => ?_)
  ·simp at h17
  ·refine .skip (.rgn [] (by simp only [go_sem, seval, ah_, ac_, cj_]; rfl) ?_ ?_)
   ·(first | trivial | (simp; done) | (simp only [T3_] at h9; simp [ah_, cj_]; omega))
   refine .rgn [] (by simp only [go_sem, seval, ah_, ac_, cj_]; rfl) ?_ ?_
   ·(first | trivial | (simp; done) | (simp only [T3_] at h9; simp [ah_, cj_]; omega))
   refine Exists.intro (i + 1) ⟨?_, ?_, ?_⟩
   ·simp only [T3_] at h9; omega
   ·simp only [T3_] at h9; omega
   exact Can.weak (Weak.lit (by simp only [go_sem, seval, ah_, ac_, cj_, ay_, leV, aw_, ax_, V.inn, us, T9_, Ta_] <;> (simp only [T3_] at h9; exact ⟨by rw [bx_ (by omega) (by omega)]; omega, bx_ (n := ((i + 1 : Nat) : Int)) (by omega) (by omega)⟩)) (by simp only [go_sem, seval, ah_, ac_, cj_, ay_, leV, aw_, ax_, V.inn, us, T9_, Ta_]) (by simp only [go_sem, seval, ah_, ac_, cj_, ay_, leV, aw_, ax_, V.inn, us, T9_, Ta_]))
 ·refine .exit (.seq (.rgn [] (by simp only [go_sem, seval, ah_, ac_, cj_]; rfl) ?_ ?_))
  ·(first | trivial | (simp; done) | (simp only [T3_] at h9; simp [ah_, cj_]; omega))
  refine .ret ⟨.inr rfl, ?_⟩
  exact Out.plain (by simp only [Tryz.results76]; rfl) (by simp only [bd_, bo_, go_sem, seval, ah_, ac_, cj_] <;> (split <;> rfl)) (by simp only [bn_, go_sem, seval, ah_, ac_, cj_] <;> (simp only [T4_] at h9; rw [show (i : Int) = n by omega])) (by simp only [go_sem, seval, ah_, ac_, cj_])
end
section
set_option maxRecDepth 100000
set_option maxHeartbeats 4000000
def torn (b : Str) (p : Int) (l : List Str) (s : Str) : Str :=
 s.take (m3_ b p s.length).toNat ++ ofI b (p + 1) l ++ s.drop ((m3_ b p s.length).toNat + (m3_ b (p + 1 + 1) 2).toNat)
end
end Go.Proofs.YtefmbmafdgedmaaGreatDoor
