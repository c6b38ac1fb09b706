/- Texts and their lines: the reference's TextOk, TextLines. Conditions: none. -/
import Derived.Test.YtcigkafioinfoaaGreatDoorK6
import Derived.Test.YtcigkafioinfoaaGreatDoorKw
import Derived.Test.YtcigkafioinfoaaGreatDoorKy
set_option linter.unusedVariables false
set_option linter.unusedSimpArgs false
namespace Go.Proofs.YtcigkafioinfoaaGreatDoor
section
set_option maxRecDepth 100000
set_option maxHeartbeats 4000000
def vo_ (s : Str) (i : Nat) (p : Nat × List Str) : Prop :=
 p.1 ≤ i ∧ p.2.length ≤ i ∧ (i ≤ s.length → p.2 ++ spl (s.drop p.1) = spl s ∧ (10 : UInt8) ∉ (s.drop p.1).take (i - p.1)) ∧ (s.length < i → p.2 = spl s)
theorem afe_ (s : Str) : vo_ s 0 (0, []) := ⟨Nat.le_refl _, Nat.le_refl _, fun _ => ⟨rfl, by simp⟩, fun h => absurd h (by omega)⟩
theorem alw_ {s : Str} {a i : Nat} (ha : a ≤ i) (hi : i < s.length) : s.drop a = (s.drop a).take (i - a) ++ s.getD i 0 :: s.drop (i + 1) := by
 conv => lhs; rw [← List.take_append_drop (i - a) (s.drop a)]
 rw [List.drop_drop, show a + (i - a) = i by omega, List.drop_eq_getElem_cons hi, T8_, T6_ hi]; rfl
theorem ak4_ {s : Str} {i : Nat} {p : Nat × List Str} (h : vo_ s i p) (hi : i ≤ s.length) (hc : i = s.length ∨ s.getD i 0 = 10) : vo_ s (i + 1) (i + 1, p.2 ++ [(s.drop p.1).take (i - p.1)]) := by
 obtain ⟨h1, h2, h3, -⟩ := h
 obtain ⟨h3, h4⟩ := h3 hi
 refine ⟨Nat.le_refl _, by simp; omega, fun hl => ?_, fun hl => ?_⟩
 ·have h10 : s.getD i 0 = 10 := by
   rcases hc with hc | hc
   ·omega
   ·exact hc
  refine ⟨?_, by simp⟩
  rw [alw_ h1 (by omega), h10, lp_ h4] at h3
  dsimp only
  rw [List.append_assoc]; exact h3
 ·have hil : i = s.length := by omega
  have e : (s.drop p.1).take (i - p.1) = s.drop p.1 := T1_ (by rw [List.length_drop]; omega)
  rw [e] at h4 ⊢
  rw [i5_ h4] at h3
  exact h3
theorem aky_ {s : Str} {i : Nat} {p : Nat × List Str} (h : vo_ s i p) (hi : i < s.length) (hc : s.getD i 0 ≠ 10) : vo_ s (i + 1) p := by
 obtain ⟨h1, h2, h3, -⟩ := h
 obtain ⟨h3, h4⟩ := h3 (by omega)
 refine ⟨by omega, by omega, fun _ => ⟨h3, ?_⟩, fun hl => by omega⟩
 rw [show i + 1 - p.1 = (i - p.1) + 1 by omega, List.take_add_one, List.getElem?_drop, show p.1 + (i - p.1) = i by omega, T6_ hi]
 rw [T8_, T6_ hi] at hc
 simp only [Option.toList_some, List.mem_append, List.mem_singleton, not_or]
 exact ⟨h4, fun e => hc e.symm⟩
theorem ahs_ {s : Str} {i : Nat} {p : Nat × List Str} (h : vo_ s i p) (hi : ¬ i ≤ s.length) : p.2 = spl s := h.2.2.2 (by omega)
theorem t9_ {c : UInt8} : ((c.toNat : Int) = 10) ↔ c = 10 := ⟨fun h => by apply UInt8.toNat_inj.1; show _ = 10; omega, fun h => by rw [h]; rfl⟩
theorem me_ (s : Str) (hs : s.length ≤ 281474976710656) : ACall En 68 [.s s] [] [.b (tOk s)] [] := by
 refine aj_ (fn := Tryz.f68) [] Tryz.func68 rfl rfl (by simp) fun C => ?_
 rw [ay_]
 simp only [Tryz.ntmps68, T7_, List.length_nil, Nat.reduceAdd, Nat.reduceSub, List.replicate_succ, List.replicate_zero, List.cons_append, List.nil_append, bu_]
 refine .seq (.rgn [] (by simp only [go_sem, seval]; rfl) ?_ ?_)
 ·first | trivial | simp
 refine .seq (.rgn [] (by simp only [go_sem, seval]; rfl) ?_ ?_)
 ·first | trivial | simp
 refine .seq (.seq (.rgn [] (by simp only [go_sem, seval]; rfl) ?_ ?_))
 ·first | trivial | simp
 refine .block (.loopK (fun q : Nat × Int => ⟨[.s s, .no, .no, .i .i64 q.2, .i .i64 q.1, .no, .no, .no, .no, .no, .no, .no, .no, .no, .no, .no, .no, .no, .no, .no, .no, .no, .no, .no, .no, .no, .no, .no, .no, .no, .no, .no, .no, .no, .no, .no, .no, .no], bh_ [], us []⟩) (fun q : Nat × Int => q.1 ≤ s.length ∧ 0 ≤ q.2 ∧ q.2 ≤ 120 ∧ gr_ (s.drop q.1) q.2 = gr_ s 0) (fun q : Nat × Int => s.length - q.1) ((0, 0)) ?_ ?_ (fun q hI => ?_))
 ·exact ⟨by simp, by decide, by decide, rfl⟩
 ·exact Can.weak (Weak.lit (by simp only [go_sem, seval, ar_, leV, ap_, aq_, V.inn, us, T9_, Ta_] <;> (simp)) (by simp only [go_sem, seval, ar_, leV, ap_, aq_, V.inn, us, T9_, Ta_]) (by simp only [go_sem, seval, ar_, leV, ap_, aq_, V.inn, us, T9_, Ta_]))
 refine .seq (.seq (.rgn [] (by simp only [go_sem, seval]; rfl) ?_ ?_))
 ·first | trivial | simp
 refine .condB (by simp only [go_sem, seval]; rfl) (by simp only [go_sem, seval]) (fun h8 => ?_) (fun h8 => ?_)
 ·refine .skip (.seq (.block (.seq (.seq (.rgn [] (by simp only [go_sem, seval]; rfl) ?_ ?_)))))
  ·simp only [T3_] at h8; exact ⟨⟨⟨by omega, fun h => ⟨h, by omega, by omega⟩⟩, fun h => ⟨h, by omega, by omega⟩⟩, fun h => ⟨h, fun h2 => by rw [h, h2]; rfl⟩⟩
  refine .condB (by simp only [go_sem, seval]; rfl) (by simp only [go_sem, seval]) (fun h26 => ?_) (fun h26 => ?_)
  ·refine .seq (.rgn [] (by simp only [go_sem, seval]; rfl) ?_ ?_)
   ·first | trivial | simp
   refine .ret ⟨.inr rfl, ?_⟩
   exact Out.plain (by simp only [Tryz.results68]; rfl) (by simp only [az_, bc_, go_sem, seval] <;> (split <;> rfl)) (by simp only [bb_, go_sem, seval] <;> (simp only [T3_] at h8; rw [T5_] at h26; have hc := bne_iff_ne.1 h26.1; have e := mx_ (show q.1 < s.length by omega) (w := q.2) hc; rw [h26.2] at e; unfold tOk; rw [← hI.2.2.2, e]; rfl)) (by simp only [go_sem, seval])
  ·refine .skip (.seq (.rgn [] (by simp only [go_sem, seval]; rfl) ?_ ?_))
   ·first | trivial | simp
   refine .seqJ (fun p : Int => ⟨[.s s, .no, .no, .i .i64 p, .i .i64 q.1, .no, .no, .no, .no, .no, .no, .no, .no, .no, .no, .no, .no, .no, .no, .no, .no, .no, .no, .no, .no, .no, .no, .no, .no, .no, .no, .no, .no, .no, .no, .no, .no, .no], bh_ [], us []⟩) (fun p : Int => p = if ((s.getD q.1 0).toNat : Int) = 10 then 0 else q.2 + 1) ?_ (fun p hJ => ?_)
   ·refine .seq (.rgn [] (by simp only [go_sem, seval]; rfl) ?_ ?_)
    ·simp only [T3_] at h8; omega
    refine .condB (by simp only [go_sem, seval]; rfl) (by simp only [go_sem, seval]) (fun h32 => ?_) (fun h32 => ?_)
    ·refine .rgn [] (by simp only [go_sem, seval]; rfl) ?_ ?_
     ·first | trivial | simp
     refine Exists.intro (0) ⟨?_, ?_⟩
     ·first | (rw [if_pos (beq_iff_eq.1 h32)]) | (rw [if_neg (by rw [beq_eq_false_iff_ne] at h32; exact h32)])
     exact Can.weak (Weak.lit (by simp only [go_sem, seval, ar_, leV, ap_, aq_, V.inn, us, T9_, Ta_] <;> (exact bi_ (by omega) (by omega))) (by simp only [go_sem, seval, ar_, leV, ap_, aq_, V.inn, us, T9_, Ta_]) (by simp only [go_sem, seval, ar_, leV, ap_, aq_, V.inn, us, T9_, Ta_]))
    ·refine .skip ?_
     refine Exists.intro (q.2 + 1) ⟨?_, ?_⟩
     ·first | (rw [if_pos (beq_iff_eq.1 h32)]) | (rw [if_neg (by rw [beq_eq_false_iff_ne] at h32; exact h32)])
     exact Can.weak (Weak.lit (by simp only [go_sem, seval, ar_, leV, ap_, aq_, V.inn, us, T9_, Ta_] <;> (exact bi_ (by omega) (by omega))) (by simp only [go_sem, seval, ar_, leV, ap_, aq_, V.inn, us, T9_, Ta_]) (by simp only [go_sem, seval, ar_, leV, ap_, aq_, V.inn, us, T9_, Ta_]))
   refine .seq (.rgn [] (by simp only [go_sem, seval]; rfl) ?_ ?_)
   ·first | trivial | simp
   refine .condB (by simp only [go_sem, seval]; rfl) (by simp only [go_sem, seval]) (fun h34 => ?_) (fun h34 => ?_)
   ·refine .seq (.rgn [] (by simp only [go_sem, seval]; rfl) ?_ ?_)
    ·first | trivial | simp
    refine .ret ⟨.inr rfl, ?_⟩
    exact Out.plain (by simp only [Tryz.results68]; rfl) (by simp only [az_, bc_, go_sem, seval] <;> (split <;> rfl)) (by simp only [bb_, go_sem, seval] <;> (simp only [T3_] at h8 h34; by_cases hc : ((s.getD q.1 0).toNat : Int) = 10; (rw [if_pos hc] at hJ; omega); (have e := mx_ (show q.1 < s.length by omega) (w := q.2) hc; rw [if_neg hc] at hJ; rw [decide_eq_true (show q.2 + 1 > 120 by omega)] at e; unfold tOk; rw [← hI.2.2.2, e]; simp))) (by simp only [go_sem, seval])
   ·refine .skip (.rgn [] (by simp only [go_sem, seval]; rfl) ?_ ?_)
    ·first | trivial | simp
    refine Exists.intro ((q.1 + 1, p)) ⟨?_, ?_, ?_⟩
    ·simp only [T3_] at h8; simp only [T4_] at h34; have e := n1_ (show q.1 < s.length by omega) q.2; by_cases hc : ((s.getD q.1 0).toNat : Int) = 10; (rw [if_pos hc] at e hJ; exact ⟨by dsimp only; omega, by dsimp only; omega, by dsimp only; omega, by dsimp only; rw [hJ, ← e]; exact hI.2.2.2⟩); (have e := mx_ (show q.1 < s.length by omega) (w := q.2) hc; rw [if_neg hc] at hJ; have h26' : (decide (((s.getD q.1 0).toNat : Int) < 32) || decide (((s.getD q.1 0).toNat : Int) > 126)) = false := (by rw [show (((s.getD q.1 0).toNat : Int) != 10) = true from bne_iff_ne.2 hc, Bool.true_and] at h26; exact h26); rw [h26', decide_eq_false (show ¬ q.2 + 1 > 120 by omega)] at e; exact ⟨by dsimp only; omega, by dsimp only; omega, by dsimp only; omega, by dsimp only; rw [hJ, ← hI.2.2.2, e]; rfl⟩)
    ·simp at h8; dsimp only; omega
    exact Can.weak (Weak.lit (by simp only [go_sem, seval, ar_, leV, ap_, aq_, V.inn, us, T9_, Ta_] <;> (rw [bi_ (by simp at h8; omega) (by simp at h8; omega)]; simp)) (by simp only [go_sem, seval, ar_, leV, ap_, aq_, V.inn, us, T9_, Ta_]) (by simp only [go_sem, seval, ar_, leV, ap_, aq_, V.inn, us, T9_, Ta_]))
 ·refine .exit (.seq (.rgn [] (by simp only [go_sem, seval]; rfl) ?_ ?_))
  ·first | trivial | simp
  refine .ret ⟨.inr rfl, ?_⟩
  exact Out.plain (by simp only [Tryz.results68]; rfl) (by simp only [az_, bc_, go_sem, seval] <;> (split <;> rfl)) (by simp only [bb_, go_sem, seval] <;> (simp only [T4_] at h8; have e := hI.2.2.2; rw [List.drop_of_length_le (by omega)] at e; unfold tOk; rw [← e]; simp only [gr_, Bool.true_and]; rw [show decide ((s.length : Int) ≤ 4000) = decide (s.length ≤ 4000) from decide_eq_decide.2 (by omega)])) (by simp only [go_sem, seval])
theorem oy_ (s : Str) (hs : s.length ≤ 4000) : ACall En 69 [.s s, .i .u8 10] [] [.sl false (bo_ (spl s))] [] := by
 refine aj_ (fn := Tryz.f69) [] Tryz.func69 rfl rfl (by simp) fun C => ?_
 rw [ay_]
 simp only [Tryz.ntmps69, T7_, List.length_nil, Nat.reduceAdd, Nat.reduceSub, List.replicate_succ, List.replicate_zero, List.cons_append, List.nil_append, bu_]
 refine .seq (.rgn [] (by simp only [go_sem, seval, ab_, aa_]; rfl) ?_ ?_)
 ·first | trivial | simp
 refine .seq (.rgn [] (by simp only [go_sem, seval, ab_, aa_]; rfl) ?_ ?_)
 ·first | trivial | simp
 refine .seq (.rgn [] (by simp only [go_sem, seval, ab_, aa_]; rfl) ?_ ?_)
 ·first | trivial | simp
 refine .seq (.seq (.rgn [] (by simp only [go_sem, seval, ab_, aa_]; rfl) ?_ ?_))
 ·first | trivial | simp
 refine .block (.loopK (fun q : Nat × Nat × List Str => ⟨[.s s, .i .u8 10, .no, .no, .no, .ow 18 1 0 q.2.2.length, .i .i64 q.2.1, .i .i64 q.1, .no, .no, .no, .no, .no, .no, .no, .no, .no, .no, .no, .no, .no, .no, .no, .no, .no, .no, .no, .no, .no, .no, .no, .no, .no, .no, .no, .no], bh_ [(18, ⟨9, 1, bo_ q.2.2⟩)], us [18]⟩) (fun q : Nat × Nat × List Str => q.1 ≤ s.length + 1 ∧ vo_ s q.1 q.2) (fun q : Nat × Nat × List Str => s.length + 1 - q.1) ((0, 0, [])) ?_ ?_ (fun q hI => ?_))
 ·exact ⟨by simp, afe_ s⟩
 ·refine Can.trans (Can.ownSlot 5 18 9 1 (by simp only [go_sem, seval, ab_, aa_] <;> rfl) (by simp only [go_sem, seval, ab_, aa_]) (by simp only [go_sem, seval, ab_, aa_] <;> rfl)) ?_
  exact Can.weak (Weak.lit (by simp only [go_sem, seval, ab_, aa_, ar_, leV, ap_, aq_, V.inn, us, T9_, Ta_] <;> ((try simp))) (by simp only [go_sem, seval, ab_, aa_, ar_, leV, ap_, aq_, V.inn, us, T9_, Ta_]) (by simp only [go_sem, seval, ab_, aa_, ar_, leV, ap_, aq_, V.inn, us, T9_, Ta_] <;> ((try simp [bo_]))))
 refine .seq (.seq (.rgn [] (by simp only [go_sem, seval, ab_, aa_]; rfl) ?_ ?_))
 ·first | trivial | simp
 refine .condB (by simp only [go_sem, seval, ab_, aa_]; rfl) (by simp only [go_sem, seval, ab_, aa_]) (fun h12 => ?_) (fun h12 => ?_)
 ·refine .skip (.seqJ (fun p : Nat × List Str => ⟨[.s s, .i .u8 10, .no, .no, .no, .ow 18 1 0 p.2.length, .i .i64 p.1, .i .i64 q.1, .no, .no, .no, .no, .no, .no, .no, .no, .no, .no, .no, .no, .no, .no, .no, .no, .no, .no, .no, .no, .no, .no, .no, .no, .no, .no, .no, .no], bh_ [(18, ⟨9, 1, bo_ p.2⟩)], us [18]⟩) (fun p : Nat × List Str => vo_ s (q.1 + 1) p) ?_ (fun p hJ => ?_))
  ·refine .block (.seq (.rgn [] (by simp only [go_sem, seval, ab_, aa_]; rfl) ?_ ?_))
   ·simp only [T3_] at h12; exact ⟨fun h => ⟨h, by omega, by simp only [Bool.not_eq_true', beq_eq_false_iff_ne] at h; omega⟩, fun h => by rw [h]; rfl⟩
   refine .condB (by simp only [go_sem, seval, ab_, aa_]; rfl) (by simp only [go_sem, seval, ab_, aa_]) (fun h25 => ?_) (fun h25 => ?_)
   ·refine .seq (.rgn [] (by simp only [go_sem, seval, ab_, aa_]; rfl) ?_ ?_)
    ·simp only [T3_] at h12; have h1 := hI.2.1; have h2 := hI.2.2.1; refine ⟨⟨by omega, by omega, by omega, by omega, by simp⟩, by simp, by simp, by omega⟩
    refine .rgn [] (by simp only [go_sem, seval, ab_, aa_]; rfl) ?_ ?_
    ·first | trivial | simp
    refine Exists.intro ((q.1 + 1, q.2.2 ++ [(s.drop q.2.1).take (q.1 - q.2.1)])) ⟨?_, ?_⟩
    ·simp only [T3_] at h12; first | (refine ak4_ hI.2 (by omega) ?_; simp only [Bool.or_eq_true, beq_iff_eq] at h25; rcases h25 with h | h; exact .inl (by omega); exact .inr (t9_.1 h)) | (simp only [Bool.or_eq_false_iff, beq_eq_false_iff_ne] at h25; exact aky_ hI.2 (by omega) (fun e => h25.2 (t9_.2 e)))
    refine Can.trans (Can.swap 42 18 (by decide) (by decide) (by decide) (by decide) (by simp only [go_sem, seval, ab_, aa_, V.cl]) (by simp only [go_sem, seval, ab_, aa_, V.cl]) (by simp only [go_sem, seval, ab_, aa_, bj_, sw, swM, rnB] <;> rfl) (by simp only [go_sem, seval, ab_, aa_, bj_, sw, swM, rnB] <;> rfl) (by simp only [go_sem, seval, ab_, aa_, bj_, sw, swM, rnB] <;> rfl)) ?_
    exact Can.weak (Weak.lit (by simp only [go_sem, seval, ab_, aa_, ar_, leV, ap_, aq_, V.inn, us, T9_, Ta_] <;> (first | rfl | (refine ⟨by simp, ?_⟩; simp only [T3_] at h12; exact hq_ (q.1 + 1) (by omega)))) (by simp only [go_sem, seval, ab_, aa_, ar_, leV, ap_, aq_, V.inn, us, T9_, Ta_]) (by simp only [go_sem, seval, ab_, aa_, ar_, leV, ap_, aq_, V.inn, us, T9_, Ta_] <;> (first | rfl | (rw [List.drop_take, lr_]; rfl))))
   ·refine .skip ?_
    refine Exists.intro ((q.2.1, q.2.2)) ⟨?_, ?_⟩
    ·simp only [T3_] at h12; first | (refine ak4_ hI.2 (by omega) ?_; simp only [Bool.or_eq_true, beq_iff_eq] at h25; rcases h25 with h | h; exact .inl (by omega); exact .inr (t9_.1 h)) | (simp only [Bool.or_eq_false_iff, beq_eq_false_iff_ne] at h25; exact aky_ hI.2 (by omega) (fun e => h25.2 (t9_.2 e)))
    exact Can.weak (Weak.lit (by simp only [go_sem, seval, ab_, aa_, ar_, leV, ap_, aq_, V.inn, us, T9_, Ta_] <;> (first | rfl | (refine ⟨by simp, ?_⟩; simp only [T3_] at h12; exact hq_ (q.1 + 1) (by omega)))) (by simp only [go_sem, seval, ab_, aa_, ar_, leV, ap_, aq_, V.inn, us, T9_, Ta_]) (by simp only [go_sem, seval, ab_, aa_, ar_, leV, ap_, aq_, V.inn, us, T9_, Ta_] <;> (first | rfl | (rw [List.drop_take, lr_]; rfl))))
  refine .rgn [] (by simp only [go_sem, seval, ab_, aa_]; rfl) ?_ ?_
  ·first | trivial | simp
  refine Exists.intro ((q.1 + 1, p.1, p.2)) ⟨?_, ?_, ?_⟩
  ·simp only [T3_] at h12; exact ⟨by dsimp only; omega, hJ⟩
  ·simp at h12; dsimp only; omega
  exact Can.weak (Weak.lit (by simp only [go_sem, seval, ab_, aa_, ar_, leV, ap_, aq_, V.inn, us, T9_, Ta_] <;> (rw [bi_ (by simp at h12; omega) (by simp at h12; omega)]; (try simp))) (by simp only [go_sem, seval, ab_, aa_, ar_, leV, ap_, aq_, V.inn, us, T9_, Ta_]) (by simp only [go_sem, seval, ab_, aa_, ar_, leV, ap_, aq_, V.inn, us, T9_, Ta_] <;> ((try simp))))
 ·refine .exit (.seq (.rgn [] (by simp only [go_sem, seval, ab_, aa_]; rfl) ?_ ?_))
  ·first | trivial | simp
  refine .frz 18 (by simp only [go_sem, seval, ab_, aa_]; rfl) (by simp only [go_sem, seval, ab_, aa_]) (by simp only [go_sem, seval, ab_, aa_]; rfl) (by simp only [go_sem, seval, ab_, aa_]; rfl) ?_
  refine .ret ⟨.inr rfl, ?_⟩
  exact Out.plainL (by simp only [Tryz.results69]; rfl) (by simp only [az_, bc_, go_sem, seval, ab_, aa_] <;> (split <;> rfl)) (by simp only [bb_, go_sem, seval, ab_, aa_] <;> (simp only [T4_] at h12; have e := ahs_ hI.2 (by omega); rw [← e]; simp [peel, leV, be_, ab_, T1_])) (by simp only [go_sem, seval, ab_, aa_])
theorem tb_ (s : Str) (hs : s.length ≤ 281474976710656) : ACall En 182 [.s s] [] [.sl false (bo_ (dc_ s))] [] := by
 refine aj_ (fn := Tryz.f182) [] Tryz.func182 rfl rfl (by simp) fun C => ?_
 rw [ay_]
 simp only [Tryz.ntmps182, T7_, List.length_nil, Nat.reduceAdd, Nat.reduceSub, List.replicate_succ, List.replicate_zero, List.cons_append, List.nil_append, bu_]
 refine .seq (.rgn [] (by simp only [go_sem, seval, aa_]; rfl) ?_ ?_)
 ·(first | trivial | (simp; done) | (simpa using h5))
 refine .seq (.seq (.rgn [a8_ (me_ s hs)] (by simp only [go_sem, seval, aa_]; rfl) ?_ ?_))
 ·(first | trivial | (simp; done) | (simpa using h5))
 refine .condB (by simp only [go_sem, seval, aa_]; rfl) (by simp only [go_sem, seval, aa_]) (fun h5 => ?_) (fun h5 => ?_)
 ·refine .seq (.rgn [] (by simp only [go_sem, seval, aa_]; rfl) ?_ ?_)
  ·(first | trivial | (simp; done) | (simpa using h5))
  refine .ret ⟨.inr rfl, ?_⟩
  exact Out.plainL (by simp only [Tryz.results182]; rfl) (by simp only [az_, bc_, go_sem, seval, aa_] <;> (split <;> rfl)) (by simp only [bb_, go_sem, seval, aa_] <;> (simp at h5; simp [dc_, h5, bo_, ler])) (by simp only [go_sem, seval, aa_])
 ·refine .skip (.seq (.rgn [ce_ (tOk s = true) (fun h => oy_ s (l6_ h))] (by simp only [go_sem, seval, aa_]; rfl) ?_ ?_))
  ·(first | trivial | (simp; done) | (simpa using h5))
  refine .ret ⟨.inr rfl, ?_⟩
  exact Out.plainL (by simp only [Tryz.results182]; rfl) (by simp only [az_, bc_, go_sem, seval, aa_] <;> (split <;> rfl)) (by simp only [bb_, go_sem, seval, aa_] <;> (simp at h5; simp [dc_, h5, be_, leV])) (by simp only [go_sem, seval, aa_])
end
section
set_option maxRecDepth 100000
set_option maxHeartbeats 4000000
end
end Go.Proofs.YtcigkafioinfoaaGreatDoor
