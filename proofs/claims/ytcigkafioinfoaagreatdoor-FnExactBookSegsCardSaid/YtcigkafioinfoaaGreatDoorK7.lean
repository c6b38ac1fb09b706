/- Texts and their lines: the reference's TextOk, TextLines. Conditions: none. -/
import Derived.Test.YtcigkafioinfoaaGreatDoorK6
import Derived.Test.YtcigkafioinfoaaGreatDoorKw
import Derived.Test.YtcigkafioinfoaaGreatDoorKy
set_option linter.unusedVariables false
set_option linter.unusedSimpArgs false
namespace Go.Proofs.YtcigkafioinfoaaGreatDoor
section
set_option maxRecDepth 100000
set_option maxHeartbeats 4000000
def wa_ (s : Str) (i : Nat) (p : Nat × List Str) : Prop :=
 p.1 ≤ i ∧ p.2.length ≤ i ∧ (i ≤ s.length → p.2 ++ spl (s.drop p.1) = spl s ∧ (10 : UInt8) ∉ (s.drop p.1).take (i - p.1)) ∧ (s.length < i → p.2 = spl s)
theorem ae9_ (s : Str) : wa_ s 0 (0, []) := ⟨Nat.le_refl _, Nat.le_refl _, fun _ => ⟨rfl, by simp⟩, fun h => absurd h (by omega)⟩
theorem akx_ {s : Str} {a i : Nat} (ha : a ≤ i) (hi : i < s.length) : s.drop a = (s.drop a).take (i - a) ++ s.getD i 0 :: s.drop (i + 1) := by
 conv => lhs; rw [← List.take_append_drop (i - a) (s.drop a)]
 rw [List.drop_drop, show a + (i - a) = i by omega, List.drop_eq_getElem_cons hi, T8_, T6_ hi]; rfl
theorem ajf_ {s : Str} {i : Nat} {p : Nat × List Str} (h : wa_ s i p) (hi : i ≤ s.length) (hc : i = s.length ∨ s.getD i 0 = 10) : wa_ s (i + 1) (i + 1, p.2 ++ [(s.drop p.1).take (i - p.1)]) := by
 obtain ⟨h1, h2, h3, -⟩ := h
 obtain ⟨h3, h4⟩ := h3 hi
 refine ⟨Nat.le_refl _, by simp; omega, fun hl => ?_, fun hl => ?_⟩
 ·have h10 : s.getD i 0 = 10 := by
   rcases hc with hc | hc
   ·omega
   ·exact hc
  refine ⟨?_, by simp⟩
  rw [akx_ h1 (by omega), h10, tc_ h4] at h3
  dsimp only
  rw [List.append_assoc]; exact h3
 ·have hil : i = s.length := by omega
  have e : (s.drop p.1).take (i - p.1) = s.drop p.1 := T1_ (by rw [List.length_drop]; omega)
  rw [e] at h4 ⊢
  rw [pz_ h4] at h3
  exact h3
theorem ajo_ {s : Str} {i : Nat} {p : Nat × List Str} (h : wa_ s i p) (hi : i < s.length) (hc : s.getD i 0 ≠ 10) : wa_ s (i + 1) p := by
 obtain ⟨h1, h2, h3, -⟩ := h
 obtain ⟨h3, h4⟩ := h3 (by omega)
 refine ⟨by omega, by omega, fun _ => ⟨h3, ?_⟩, fun hl => by omega⟩
 rw [show i + 1 - p.1 = (i - p.1) + 1 by omega, List.take_add_one, List.getElem?_drop, show p.1 + (i - p.1) = i by omega, T6_ hi]
 rw [T8_, T6_ hi] at hc
 simp only [Option.toList_some, List.mem_append, List.mem_singleton, not_or]
 exact ⟨h4, fun e => hc e.symm⟩
theorem ah3_ {s : Str} {i : Nat} {p : Nat × List Str} (h : wa_ s i p) (hi : ¬ i ≤ s.length) : p.2 = spl s := h.2.2.2 (by omega)
theorem tm_ {c : UInt8} : ((c.toNat : Int) = 10) ↔ c = 10 := ⟨fun h => by apply UInt8.toNat_inj.1; show _ = 10; omega, fun h => by rw [h]; rfl⟩
theorem sb_ (s : Str) (hs : s.length ≤ 281474976710656) : ACall En 68 [.s s] [] [.b (tOk s)] [] := by
 refine al_ (fn := Tryz.f68) [] Tryz.func68 rfl rfl (by simp) fun C => ?_
 rw [ay_]
 simp only [Tryz.ntmps68, T7_, List.length_nil, Nat.reduceAdd, Nat.reduceSub, List.replicate_succ, List.replicate_zero, List.cons_append, List.nil_append, bs_]
 refine .seq (.rgn [] (by simp only [go_sem, seval]; rfl) ?_ ?_)
 ·first | trivial | simp
 refine .seq (.rgn [] (by simp only [go_sem, seval]; rfl) ?_ ?_)
 ·first | trivial | simp
 refine .seq (.seq (.rgn [] (by simp only [go_sem, seval]; rfl) ?_ ?_))
 ·first | trivial | simp
 refine .block (.loopK (fun q : Nat × Int => ⟨[.s s, .no, .no, .i .i64 q.2, .i .i64 q.1, .no, .no, .no, .no, .no, .no, .no, .no, .no, .no, .no, .no, .no, .no, .no, .no, .no, .no, .no, .no, .no, .no, .no, .no, .no, .no, .no, .no, .no, .no, .no, .no, .no], a7_ [], us []⟩) (fun q : Nat × Int => q.1 ≤ s.length ∧ 0 ≤ q.2 ∧ q.2 ≤ 120 ∧ ja_ (s.drop q.1) q.2 = ja_ s 0) (fun q : Nat × Int => s.length - q.1) ((0, 0)) ?_ ?_ (fun q hI => ?_))
 ·exact ⟨by simp, by decide, by decide, rfl⟩
 ·exact Can.weak (Weak.lit (by simp only [go_sem, seval, at_, leV, aq_, ar_, V.inn, us, T9_, Ta_] <;> (simp)) (by simp only [go_sem, seval, at_, leV, aq_, ar_, V.inn, us, T9_, Ta_]) (by simp only [go_sem, seval, at_, leV, aq_, ar_, V.inn, us, T9_, Ta_]))
 refine .seq (.seq (.rgn [] (by simp only [go_sem, seval]; rfl) ?_ ?_))
 ·first | trivial | simp
 refine .condB (by simp only [go_sem, seval]; rfl) (by simp only [go_sem, seval]) (fun h8 => ?_) (fun h8 => ?_)
 ·refine .skip (.seq (.block (.seq (.seq (.rgn [] (by simp only [go_sem, seval]; rfl) ?_ ?_)))))
  ·simp only [T3_] at h8; exact ⟨⟨⟨by omega, fun h => ⟨h, by omega, by omega⟩⟩, fun h => ⟨h, by omega, by omega⟩⟩, fun h => ⟨h, fun h2 => by rw [h, h2]; rfl⟩⟩
  refine .condB (by simp only [go_sem, seval]; rfl) (by simp only [go_sem, seval]) (fun h26 => ?_) (fun h26 => ?_)
  ·refine .seq (.rgn [] (by simp only [go_sem, seval]; rfl) ?_ ?_)
   ·first | trivial | simp
   refine .ret ⟨.inr rfl, ?_⟩
   exact Out.plain (by simp only [Tryz.results68]; rfl) (by simp only [az_, bj_, go_sem, seval] <;> (split <;> rfl)) (by simp only [bg_, go_sem, seval] <;> (simp only [T3_] at h8; rw [T5_] at h26; have hc := bne_iff_ne.1 h26.1; have e := m3_ (show q.1 < s.length by omega) (w := q.2) hc; rw [h26.2] at e; unfold tOk; rw [← hI.2.2.2, e]; rfl)) (by simp only [go_sem, seval])
  ·refine .skip (.seq (.rgn [] (by simp only [go_sem, seval]; rfl) ?_ ?_))
   ·first | trivial | simp
   refine .seqJ (fun p : Int => ⟨[.s s, .no, .no, .i .i64 p, .i .i64 q.1, .no, .no, .no, .no, .no, .no, .no, .no, .no, .no, .no, .no, .no, .no, .no, .no, .no, .no, .no, .no, .no, .no, .no, .no, .no, .no, .no, .no, .no, .no, .no, .no, .no], a7_ [], us []⟩) (fun p : Int => p = if ((s.getD q.1 0).toNat : Int) = 10 then 0 else q.2 + 1) ?_ (fun p hJ => ?_)
   ·refine .seq (.rgn [] (by simp only [go_sem, seval]; rfl) ?_ ?_)
    ·simp only [T3_] at h8; omega
    refine .condB (by simp only [go_sem, seval]; rfl) (by simp only [go_sem, seval]) (fun h32 => ?_) (fun h32 => ?_)
    ·refine .rgn [] (by simp only [go_sem, seval]; rfl) ?_ ?_
     ·first | trivial | simp
     refine Exists.intro (0) ⟨?_, ?_⟩
     ·first | (rw [if_pos (beq_iff_eq.1 h32)]) | (rw [if_neg (by rw [beq_eq_false_iff_ne] at h32; exact h32)])
     exact Can.weak (Weak.lit (by simp only [go_sem, seval, at_, leV, aq_, ar_, V.inn, us, T9_, Ta_] <;> (exact bp_ (by omega) (by omega))) (by simp only [go_sem, seval, at_, leV, aq_, ar_, V.inn, us, T9_, Ta_]) (by simp only [go_sem, seval, at_, leV, aq_, ar_, V.inn, us, T9_, Ta_]))
    ·refine .skip ?_
     refine Exists.intro (q.2 + 1) ⟨?_, ?_⟩
     ·first | (rw [if_pos (beq_iff_eq.1 h32)]) | (rw [if_neg (by rw [beq_eq_false_iff_ne] at h32; exact h32)])
     exact Can.weak (Weak.lit (by simp only [go_sem, seval, at_, leV, aq_, ar_, V.inn, us, T9_, Ta_] <;> (exact bp_ (by omega) (by omega))) (by simp only [go_sem, seval, at_, leV, aq_, ar_, V.inn, us, T9_, Ta_]) (by simp only [go_sem, seval, at_, leV, aq_, ar_, V.inn, us, T9_, Ta_]))
   refine .seq (.rgn [] (by simp only [go_sem, seval]; rfl) ?_ ?_)
   ·first | trivial | simp
   refine .condB (by simp only [go_sem, seval]; rfl) (by simp only [go_sem, seval]) (fun h34 => ?_) (fun h34 => ?_)
   ·refine .seq (.rgn [] (by simp only [go_sem, seval]; rfl) ?_ ?_)
    ·first | trivial | simp
    refine .ret ⟨.inr rfl, ?_⟩
    exact Out.plain (by simp only [Tryz.results68]; rfl) (by simp only [az_, bj_, go_sem, seval] <;> (split <;> rfl)) (by simp only [bg_, go_sem, seval] <;> (simp only [T3_] at h8 h34; by_cases hc : ((s.getD q.1 0).toNat : Int) = 10; (rw [if_pos hc] at hJ; omega); (have e := m3_ (show q.1 < s.length by omega) (w := q.2) hc; rw [if_neg hc] at hJ; rw [decide_eq_true (show q.2 + 1 > 120 by omega)] at e; unfold tOk; rw [← hI.2.2.2, e]; simp))) (by simp only [go_sem, seval])
   ·refine .skip (.rgn [] (by simp only [go_sem, seval]; rfl) ?_ ?_)
    ·first | trivial | simp
    refine Exists.intro ((q.1 + 1, p)) ⟨?_, ?_, ?_⟩
    ·simp only [T3_] at h8; simp only [T4_] at h34; have e := oe_ (show q.1 < s.length by omega) q.2; by_cases hc : ((s.getD q.1 0).toNat : Int) = 10; (rw [if_pos hc] at e hJ; exact ⟨by dsimp only; omega, by dsimp only; omega, by dsimp only; omega, by dsimp only; rw [hJ, ← e]; exact hI.2.2.2⟩); (have e := m3_ (show q.1 < s.length by omega) (w := q.2) hc; rw [if_neg hc] at hJ; have h26' : (decide (((s.getD q.1 0).toNat : Int) < 32) || decide (((s.getD q.1 0).toNat : Int) > 126)) = false := (by rw [show (((s.getD q.1 0).toNat : Int) != 10) = true from bne_iff_ne.2 hc, Bool.true_and] at h26; exact h26); rw [h26', decide_eq_false (show ¬ q.2 + 1 > 120 by omega)] at e; exact ⟨by dsimp only; omega, by dsimp only; omega, by dsimp only; omega, by dsimp only; rw [hJ, ← hI.2.2.2, e]; rfl⟩)
    ·simp at h8; dsimp only; omega
    exact Can.weak (Weak.lit (by simp only [go_sem, seval, at_, leV, aq_, ar_, V.inn, us, T9_, Ta_] <;> (rw [bp_ (by simp at h8; omega) (by simp at h8; omega)]; simp)) (by simp only [go_sem, seval, at_, leV, aq_, ar_, V.inn, us, T9_, Ta_]) (by simp only [go_sem, seval, at_, leV, aq_, ar_, V.inn, us, T9_, Ta_]))
 ·refine .exit (.seq (.rgn [] (by simp only [go_sem, seval]; rfl) ?_ ?_))
  ·first | trivial | simp
  refine .ret ⟨.inr rfl, ?_⟩
  exact Out.plain (by simp only [Tryz.results68]; rfl) (by simp only [az_, bj_, go_sem, seval] <;> (split <;> rfl)) (by simp only [bg_, go_sem, seval] <;> (simp only [T4_] at h8; have e := hI.2.2.2; rw [List.drop_of_length_le (by omega)] at e; unfold tOk; rw [← e]; simp only [ja_, Bool.true_and]; rw [show decide ((s.length : Int) ≤ 4000) = decide (s.length ≤ 4000) from decide_eq_decide.2 (by omega)])) (by simp only [go_sem, seval])
theorem um_ (s : Str) (hs : s.length ≤ 4000) : ACall En 69 [.s s, .i .u8 10] [] [.sl false (b6_ (spl s))] [] := by
 refine al_ (fn := Tryz.f69) [] Tryz.func69 rfl rfl (by simp) fun C => ?_
 rw [ay_]
 simp only [Tryz.ntmps69, T7_, List.length_nil, Nat.reduceAdd, Nat.reduceSub, List.replicate_succ, List.replicate_zero, List.cons_append, List.nil_append, bs_]
 refine .seq (.rgn [] (by simp only [go_sem, seval, ac_, ab_]; rfl) ?_ ?_)
 ·first | trivial | simp
 refine .seq (.rgn [] (by simp only [go_sem, seval, ac_, ab_]; rfl) ?_ ?_)
 ·first | trivial | simp
 refine .seq (.rgn [] (by simp only [go_sem, seval, ac_, ab_]; rfl) ?_ ?_)
 ·first | trivial | simp
 refine .seq (.seq (.rgn [] (by simp only [go_sem, seval, ac_, ab_]; rfl) ?_ ?_))
 ·first | trivial | simp
 refine .block (.loopK (fun q : Nat × Nat × List Str => ⟨[.s s, .i .u8 10, .no, .no, .no, .ow 18 1 0 q.2.2.length, .i .i64 q.2.1, .i .i64 q.1, .no, .no, .no, .no, .no, .no, .no, .no, .no, .no, .no, .no, .no, .no, .no, .no, .no, .no, .no, .no, .no, .no, .no, .no, .no, .no, .no, .no], a7_ [(18, ⟨9, 1, b6_ q.2.2⟩)], us [18]⟩) (fun q : Nat × Nat × List Str => q.1 ≤ s.length + 1 ∧ wa_ s q.1 q.2) (fun q : Nat × Nat × List Str => s.length + 1 - q.1) ((0, 0, [])) ?_ ?_ (fun q hI => ?_))
 ·exact ⟨by simp, ae9_ s⟩
 ·refine Can.trans (Can.ownSlot 5 18 9 1 (by simp only [go_sem, seval, ac_, ab_] <;> rfl) (by simp only [go_sem, seval, ac_, ab_]) (by simp only [go_sem, seval, ac_, ab_] <;> rfl)) ?_
  exact Can.weak (Weak.lit (by simp only [go_sem, seval, ac_, ab_, at_, leV, aq_, ar_, V.inn, us, T9_, Ta_] <;> ((try simp))) (by simp only [go_sem, seval, ac_, ab_, at_, leV, aq_, ar_, V.inn, us, T9_, Ta_]) (by simp only [go_sem, seval, ac_, ab_, at_, leV, aq_, ar_, V.inn, us, T9_, Ta_] <;> ((try simp [b6_]))))
 refine .seq (.seq (.rgn [] (by simp only [go_sem, seval, ac_, ab_]; rfl) ?_ ?_))
 ·first | trivial | simp
 refine .condB (by simp only [go_sem, seval, ac_, ab_]; rfl) (by simp only [go_sem, seval, ac_, ab_]) (fun h12 => ?_) (fun h12 => ?_)
 ·refine .skip (.seqJ (fun p : Nat × List Str => ⟨[.s s, .i .u8 10, .no, .no, .no, .ow 18 1 0 p.2.length, .i .i64 p.1, .i .i64 q.1, .no, .no, .no, .no, .no, .no, .no, .no, .no, .no, .no, .no, .no, .no, .no, .no, .no, .no, .no, .no, .no, .no, .no, .no, .no, .no, .no, .no], a7_ [(18, ⟨9, 1, b6_ p.2⟩)], us [18]⟩) (fun p : Nat × List Str => wa_ s (q.1 + 1) p) ?_ (fun p hJ => ?_))
  ·refine .block (.seq (.rgn [] (by simp only [go_sem, seval, ac_, ab_]; rfl) ?_ ?_))
   ·simp only [T3_] at h12; exact ⟨fun h => ⟨h, by omega, by simp only [Bool.not_eq_true', beq_eq_false_iff_ne] at h; omega⟩, fun h => by rw [h]; rfl⟩
   refine .condB (by simp only [go_sem, seval, ac_, ab_]; rfl) (by simp only [go_sem, seval, ac_, ab_]) (fun h25 => ?_) (fun h25 => ?_)
   ·refine .seq (.rgn [] (by simp only [go_sem, seval, ac_, ab_]; rfl) ?_ ?_)
    ·simp only [T3_] at h12; have h1 := hI.2.1; have h2 := hI.2.2.1; refine ⟨⟨by omega, by omega, by omega, by omega, by simp⟩, by simp, by simp, by omega⟩
    refine .rgn [] (by simp only [go_sem, seval, ac_, ab_]; rfl) ?_ ?_
    ·first | trivial | simp
    refine Exists.intro ((q.1 + 1, q.2.2 ++ [(s.drop q.2.1).take (q.1 - q.2.1)])) ⟨?_, ?_⟩
    ·simp only [T3_] at h12; first | (refine ajf_ hI.2 (by omega) ?_; simp only [Bool.or_eq_true, beq_iff_eq] at h25; rcases h25 with h | h; exact .inl (by omega); exact .inr (tm_.1 h)) | (simp only [Bool.or_eq_false_iff, beq_eq_false_iff_ne] at h25; exact ajo_ hI.2 (by omega) (fun e => h25.2 (tm_.2 e)))
    refine Can.trans (Can.swap 42 18 (by decide) (by decide) (by decide) (by decide) (by simp only [go_sem, seval, ac_, ab_, V.cl]) (by simp only [go_sem, seval, ac_, ab_, V.cl]) (by simp only [go_sem, seval, ac_, ab_, by_, sw, swM, rnB] <;> rfl) (by simp only [go_sem, seval, ac_, ab_, by_, sw, swM, rnB] <;> rfl) (by simp only [go_sem, seval, ac_, ab_, by_, sw, swM, rnB] <;> rfl)) ?_
    exact Can.weak (Weak.lit (by simp only [go_sem, seval, ac_, ab_, at_, leV, aq_, ar_, V.inn, us, T9_, Ta_] <;> (first | rfl | (refine ⟨by simp, ?_⟩; simp only [T3_] at h12; exact ht_ (q.1 + 1) (by omega)))) (by simp only [go_sem, seval, ac_, ab_, at_, leV, aq_, ar_, V.inn, us, T9_, Ta_]) (by simp only [go_sem, seval, ac_, ab_, at_, leV, aq_, ar_, V.inn, us, T9_, Ta_] <;> (first | rfl | (rw [List.drop_take, ou_]; rfl))))
   ·refine .skip ?_
    refine Exists.intro ((q.2.1, q.2.2)) ⟨?_, ?_⟩
    ·simp only [T3_] at h12; first | (refine ajf_ hI.2 (by omega) ?_; simp only [Bool.or_eq_true, beq_iff_eq] at h25; rcases h25 with h | h; exact .inl (by omega); exact .inr (tm_.1 h)) | (simp only [Bool.or_eq_false_iff, beq_eq_false_iff_ne] at h25; exact ajo_ hI.2 (by omega) (fun e => h25.2 (tm_.2 e)))
    exact Can.weak (Weak.lit (by simp only [go_sem, seval, ac_, ab_, at_, leV, aq_, ar_, V.inn, us, T9_, Ta_] <;> (first | rfl | (refine ⟨by simp, ?_⟩; simp only [T3_] at h12; exact ht_ (q.1 + 1) (by omega)))) (by simp only [go_sem, seval, ac_, ab_, at_, leV, aq_, ar_, V.inn, us, T9_, Ta_]) (by simp only [go_sem, seval, ac_, ab_, at_, leV, aq_, ar_, V.inn, us, T9_, Ta_] <;> (first | rfl | (rw [List.drop_take, ou_]; rfl))))
  refine .rgn [] (by simp only [go_sem, seval, ac_, ab_]; rfl) ?_ ?_
  ·first | trivial | simp
  refine Exists.intro ((q.1 + 1, p.1, p.2)) ⟨?_, ?_, ?_⟩
  ·simp only [T3_] at h12; exact ⟨by dsimp only; omega, hJ⟩
  ·simp at h12; dsimp only; omega
  exact Can.weak (Weak.lit (by simp only [go_sem, seval, ac_, ab_, at_, leV, aq_, ar_, V.inn, us, T9_, Ta_] <;> (rw [bp_ (by simp at h12; omega) (by simp at h12; omega)]; (try simp))) (by simp only [go_sem, seval, ac_, ab_, at_, leV, aq_, ar_, V.inn, us, T9_, Ta_]) (by simp only [go_sem, seval, ac_, ab_, at_, leV, aq_, ar_, V.inn, us, T9_, Ta_] <;> ((try simp))))
 ·refine .exit (.seq (.rgn [] (by simp only [go_sem, seval, ac_, ab_]; rfl) ?_ ?_))
  ·first | trivial | simp
  refine .frz 18 (by simp only [go_sem, seval, ac_, ab_]; rfl) (by simp only [go_sem, seval, ac_, ab_]) (by simp only [go_sem, seval, ac_, ab_]; rfl) (by simp only [go_sem, seval, ac_, ab_]; rfl) ?_
  refine .ret ⟨.inr rfl, ?_⟩
  exact Out.plainL (by simp only [Tryz.results69]; rfl) (by simp only [az_, bj_, go_sem, seval, ac_, ab_] <;> (split <;> rfl)) (by simp only [bg_, go_sem, seval, ac_, ab_] <;> (simp only [T4_] at h12; have e := ah3_ hI.2 (by omega); rw [← e]; simp [peel, leV, ap_, ac_, T1_])) (by simp only [go_sem, seval, ac_, ab_])
end
section
set_option maxRecDepth 100000
set_option maxHeartbeats 4000000
end
end Go.Proofs.YtcigkafioinfoaaGreatDoor
