/- Numbers and words of a line: the reference's l12Num, l3Num, TokOk, TokKind, l3Class. Conditions: none. -/
import Derived.Test.YtefmbmafdgedmaaGreatDoorKn
import Derived.Test.YtefmbmafdgedmaaGreatDoorKg
import Derived.Test.YtefmbmafdgedmaaGreatDoorKd
import Derived.Test.YtefmbmafdgedmaaGreatDoorKb
import Derived.Test.YtefmbmafdgedmaaGreatDoorK1
set_option linter.unusedVariables false
set_option linter.unusedSimpArgs false
namespace Go.Proofs.YtefmbmafdgedmaaGreatDoor
section
set_option maxRecDepth 100000
set_option maxHeartbeats 4000000
theorem i3_ (s : Str) : (decide ((s.length : Int) > 0) && (((s.getD 0 0).toNat : Int) == 45)) = (s.head? == some 45) := by
 cases s with
 | nil => rfl
 | cons c r =>
  have h : decide (((c :: r).length : Int) > 0) = true := by simp only [T7_, T3_]; omega
  rw [h, Bool.true_and]
  simp only [List.getD_cons_zero, List.head?_cons]
  rw [Bool.eq_iff_iff]
  simp only [beq_iff_eq, Option.some.injEq]
  constructor
  ·intro e; apply UInt8.toNat_inj.1; show _ = 45; omega
  ·intro e; rw [e]; rfl
theorem pn_ : ∀ (k : Nat) (l : Str), k ≤ l.length → (l.take k).all ct_ = true → b9_ (l.take k) < 10 ^ k
 | 0, l, _, _ => by simp [b9_]
 | k + 1, l, hk, h => by
  have e : l.take (k + 1) = l.take k ++ [l.getD k 0] := by
   rw [List.take_add_one, T6_ hk, T8_, T6_ hk]; rfl
  rw [e, List.all_append, T5_] at h
  have ih := pn_ k l (by omega) h.1
  rw [e, ha_, Nat.pow_succ]
  have hd : ct_ (l.getD k 0) = true := by simpa using h.2
  simp only [ct_, T5_, T3_] at hd
  omega
theorem x2_ {l : Str} {k : Nat} (hk : k < l.length) : b9_ (l.take (k + 1)) = b9_ (l.take k) * 10 + ((l.getD k 0).toNat - 48) := by
 have e : l.take (k + 1) = l.take k ++ [l.getD k 0] := by
  rw [List.take_add_one, T6_ hk, T8_, T6_ hk]; rfl
 rw [e, ha_]
theorem yx_ {l : Str} {k : Nat} (hk : k ≤ l.length) (h17 : l.length ≤ 17) (h : (l.take k).all ct_ = true) : b9_ (l.take k) < 100000000000000000 := by
 have := pn_ k l hk h
 have h2 : 10 ^ k ≤ 10 ^ 17 := Nat.pow_le_pow_right (by decide) (by omega)
 have h3 : (10 : Nat) ^ 17 = 100000000000000000 := by decide
 omega
def il_ (s : Str) : Bool := s.head? == some 45
def c9_ (s : Str) : Str := if il_ s then s.tail else s
theorem nx_ (s : Str) : hs_ s = if (c9_ s).length = 0 ∨ 17 < (c9_ s).length ∨ ((c9_ s).head? = some 48 ∧ (1 < (c9_ s).length ∨ il_ s = true)) then (0, false) else if (c9_ s).all ct_ then (if il_ s then -(b9_ (c9_ s) : Int) else b9_ (c9_ s), true) else (0, false) := rfl
theorem ade_ (q : Str) (h : q ≠ []) : (((q.getD 0 0).toNat : Int) == 48) = decide (q.head? = some 48) := by
 cases q with
 | nil => exact absurd rfl h
 | cons c r =>
  simp only [List.getD_cons_zero, List.head?_cons, Option.some.injEq]
  rw [Bool.eq_iff_iff]
  simp only [beq_iff_eq, T3_]
  constructor
  ·intro e; apply UInt8.toNat_inj.1; show _ = 48; omega
  ·intro e; rw [e]; rfl
theorem aaq_ (q : Str) (n : Bool) : (((q.length : Int) == 0) || decide ((q.length : Int) > 17) || (((q.getD 0 0).toNat : Int) == 48) && (decide ((q.length : Int) > 1) || n)) = decide (q.length = 0 ∨ 17 < q.length ∨ (q.head? = some 48 ∧ (1 < q.length ∨ n = true))) := by
 by_cases hq : q = []
 ·subst hq; simp
 ·rw [ade_ q hq, Bool.eq_iff_iff]
  simp only [Bool.or_eq_true, T5_, beq_iff_eq, T3_]
  constructor
  ·rintro ((h | h) | ⟨h1, h2 | h2⟩)
   ·exact .inl (by omega)
   ·exact .inr (.inl (by omega))
   ·exact .inr (.inr ⟨h1, .inl (by omega)⟩)
   ·exact .inr (.inr ⟨h1, .inr h2⟩)
  ·rintro (h | h | ⟨h1, h2 | h2⟩)
   ·exact .inl (.inl (by omega))
   ·exact .inl (.inr (by omega))
   ·exact .inr ⟨h1, .inl (by omega)⟩
   ·exact .inr ⟨h1, .inr h2⟩
theorem tv_ {s : Str} (h : (((c9_ s).length : Int) == 0 || decide (((c9_ s).length : Int) > 17) || ((((c9_ s).getD 0 0).toNat : Int) == 48) && (decide (((c9_ s).length : Int) > 1) || il_ s)) = true) : hs_ s = (0, false) := by
 rw [aaq_] at h
 rw [nx_, if_pos (of_decide_eq_true h)]
theorem m7_ {s : Str} (h : (((c9_ s).length : Int) == 0 || decide (((c9_ s).length : Int) > 17) || ((((c9_ s).getD 0 0).toNat : Int) == 48) && (decide (((c9_ s).length : Int) > 1) || il_ s)) = false) : (c9_ s).length ≤ 17 ∧ hs_ s = (if (c9_ s).all ct_ then (if il_ s then -(b9_ (c9_ s) : Int) else b9_ (c9_ s), true) else (0, false)) := by
 rw [aaq_] at h
 have := of_decide_eq_false h
 exact ⟨by omega, by rw [nx_, if_neg this]⟩
theorem u5_ (c : UInt8) : ∀ (s : Str) (k : Nat), k < s.length → c ∉ s.take k → s.getD k 0 = c → Lib.indexByte s c = k
 | [], k, h, _, _ => by simp at h
 | b :: s, 0, _, _, e => by
  simp only [List.getD_cons_zero] at e
  subst e
  unfold Lib.indexByte; simp
 | b :: s, k + 1, h, hn, e => by
  simp only [List.take_succ_cons, List.mem_cons, not_or] at hn
  have ih := u5_ c s k (by simpa using h) hn.2 (by simpa using e)
  unfold Lib.indexByte
  rw [if_neg (by simpa using fun q => hn.1 q.symm), ih, if_neg (by simp)]; rfl
theorem ac1_ (c : UInt8) (s : Str) (h : c ∉ s) : Lib.indexByte s c = -1 := by
 have h1 := us_ s c
 have h2 : ¬ 0 ≤ Lib.indexByte s c := fun q => h ((q2_ s c).1 q)
 omega
theorem ac7_ {a b : UInt8} (h : ((a.toNat : Int) == (b.toNat : Int)) = true) : a = b := by
 simp only [beq_iff_eq] at h
 apply UInt8.toNat_inj.1; omega
theorem adf_ {a b : UInt8} (h : ((a.toNat : Int) == (b.toNat : Int)) = false) : a ≠ b := by
 rintro rfl; simp at h
theorem ym_ {s : Str} {k : Nat} {c : UInt8} (hk : k < s.length) (h : c ∉ s.take k) (h2 : s.getD k 0 ≠ c) : c ∉ s.take (k + 1) := by
 rw [List.take_add_one, T6_ hk]
 rw [T8_, T6_ hk] at h2
 simp only [Option.toList, List.mem_append, List.mem_cons, List.not_mem_nil, or_false, not_or]
 exact ⟨h, fun e => h2 e.symm⟩
theorem aab_ {c : UInt8} (h : (decide ((c.toNat : Int) < 48) || decide ((c.toNat : Int) > 57)) = true) : ct_ c = false := by
 simp only [Bool.or_eq_true, T3_] at h
 rw [Bool.eq_false_iff]
 intro q
 simp only [ct_, T5_, T3_] at q
 omega
theorem pu_ {c : UInt8} (h : (decide ((c.toNat : Int) < 48) || decide ((c.toNat : Int) > 57)) = false) : ct_ c = true ∧ 48 ≤ c.toNat ∧ c.toNat ≤ 57 := by
 simp only [Bool.or_eq_false_iff, T4_] at h
 simp only [ct_, T5_, T3_]
 omega
theorem aej_ {n : Int} (h1 : 0 ≤ n) (h2 : n < 256) : IntKind.u8.wrap n = n := by
 have e : (2 : Int) ^ IntKind.u8.bits = 256 := rfl
 have e' : IntKind.u8.signed = false := rfl
 simp only [IntKind.wrap, e, e', Bool.false_and, Bool.false_eq_true, if_false]
 omega
theorem acq_ {q : Str} {k : Nat} (hk : k < q.length) : (q.take (k + 1)).all ct_ = ((q.take k).all ct_ && ct_ (q.getD k 0)) := by
 rw [List.take_add_one, T6_ hk, List.all_append, T8_, T6_ hk]; simp
theorem rx_ (s : Str) (hs : s.length ≤ 281474976710656) : ACall En 236 [.s s] [] [.i .i64 (hs_ s).1, .b (hs_ s).2] [] := by
 have hq : (c9_ s).length ≤ s.length := by unfold c9_; split <;> simp
 have hN := nx_ s
 refine aq_ (fn := Tryz.f236) [] Tryz.func236 rfl rfl (by simp) fun C => ?_
 rw [bb_]
 simp only [Tryz.ntmps236, T7_, List.length_nil, Nat.reduceAdd, Nat.reduceSub, List.replicate_succ, List.replicate_zero, List.cons_append, List.nil_append, bl_]
 refine .seq (.rgn [] (by simp only [go_sem, seval]; rfl) ?_ ?_)
 ·first | trivial | simp
 refine .seq (.rgn [] (by simp only [go_sem, seval]; rfl) ?_ ?_)
 ·first | trivial | simp
 refine .seqJ (fun q : Str => ⟨[.s q, .no, .no, .no, .b (il_ s), .no, .no, .no, .no, .no, .no, .no, .no, .no, .no, .no, .no, .no, .no, .no, .no, .no, .no, .no, .no, .no, .no, .no, .no, .no, .no, .no, .no, .no, .no, .no, .no, .no, .no, .no, .no, .no, .no, .no, .no, .no, .no, .no, .no, .no, .no, .no, .no, .no, .no, .no, .no, .no, .no, .no, .no, .no, .no, .no, .no, .no, .no], be_ [], us []⟩) (fun q : Str => q = c9_ s) ?_ (fun q hJ => ?_)
 ·refine .seq (.rgn [] (by simp only [go_sem, seval]; rfl) ?_ ?_)
  ·first | trivial | simp
  refine .condB (by simp only [go_sem, seval]; rfl) (by simp only [go_sem, seval]) (fun h15 => ?_) (fun h15 => ?_)
  ·refine .rgn [] (by simp only [go_sem, seval]; rfl) ?_ ?_
   ·rw [T5_] at h15; have h0 := of_decide_eq_true h15.1; omega
   refine Exists.intro (s.drop 1) ⟨?_, ?_⟩
   ·rw [i3_] at h15; unfold c9_ il_; rw [h15]; simp
   exact Can.weak (Weak.lit (by simp only [go_sem, seval, a2_, leV, az_, a0_, V.inn, us, T9_, Ta_] <;> (first | (refine ⟨by simp [T1_], ?_⟩; rw [i3_]; rfl) | (rw [i3_]; rfl))) (by simp only [go_sem, seval, a2_, leV, az_, a0_, V.inn, us, T9_, Ta_]) (by simp only [go_sem, seval, a2_, leV, az_, a0_, V.inn, us, T9_, Ta_]))
  ·refine .skip ?_
   refine Exists.intro (s) ⟨?_, ?_⟩
   ·rw [i3_] at h15; unfold c9_ il_; rw [h15]; simp
   exact Can.weak (Weak.lit (by simp only [go_sem, seval, a2_, leV, az_, a0_, V.inn, us, T9_, Ta_] <;> (first | (refine ⟨by simp [T1_], ?_⟩; rw [i3_]; rfl) | (rw [i3_]; rfl))) (by simp only [go_sem, seval, a2_, leV, az_, a0_, V.inn, us, T9_, Ta_]) (by simp only [go_sem, seval, a2_, leV, az_, a0_, V.inn, us, T9_, Ta_]))
 refine .seq (.seq (.rgn [] (by simp only [go_sem, seval]; rfl) ?_ ?_))
 ·refine ⟨⟨⟨⟨fun h => by rw [h]; rfl, fun h => ⟨h, by simp only [Bool.not_eq_true', Bool.or_eq_false_iff, beq_eq_false_iff_ne] at h; have := h.1; omega⟩⟩, fun h => ⟨h, fun h2 => by rw [h, h2]; rfl⟩⟩, fun h => ⟨h, fun h2 => by rw [h, h2]; rfl⟩⟩, fun h => by rw [h]; rfl⟩
 refine .condB (by simp only [go_sem, seval]; rfl) (by simp only [go_sem, seval]) (fun h38 => ?_) (fun h38 => ?_)
 ·refine .seq (.rgn [] (by simp only [go_sem, seval]; rfl) ?_ ?_)
  ·first | trivial | simp
  refine .ret ⟨.inr rfl, ?_⟩
  exact Out.plain (by simp only [Tryz.results236]; rfl) (by simp only [a4_, bh_, go_sem, seval] <;> (split <;> rfl)) (by simp only [bg_, go_sem, seval] <;> (subst hJ; rw [tv_ h38])) (by simp only [go_sem, seval])
 ·refine .skip (.seq (.rgn [] (by simp only [go_sem, seval]; rfl) ?_ ?_))
  ·first | trivial | simp
  refine .seq (.seq (.rgn [] (by simp only [go_sem, seval]; rfl) ?_ ?_))
  ·first | trivial | simp
  refine .block (.loopK (fun k : Nat => ⟨[.s q, .no, .no, .no, .b (il_ s), .i .i64 (b9_ (q.take k)), .i .i64 k, .no, .no, .no, .no, .no, .no, .no, .no, .no, .no, .no, .no, .no, .no, .no, .no, .no, .no, .no, .no, .no, .no, .no, .no, .no, .no, .no, .no, .no, .no, .no, .no, .no, .no, .no, .no, .no, .no, .no, .no, .no, .no, .no, .no, .no, .no, .no, .no, .no, .no, .no, .no, .no, .no, .no, .no, .no, .no, .no, .no], be_ [], us []⟩) (fun k : Nat => k ≤ q.length ∧ q.length ≤ 17 ∧ (q.take k).all ct_ = true) (fun k : Nat => q.length - k) (0) ?_ ?_ (fun k hI => ?_))
  ·subst hJ; exact ⟨Nat.zero_le _, (m7_ h38).1, by simp⟩
  ·exact Can.weak (Weak.lit (by simp only [go_sem, seval, a2_, leV, az_, a0_, V.inn, us, T9_, Ta_] <;> (simp [b9_])) (by simp only [go_sem, seval, a2_, leV, az_, a0_, V.inn, us, T9_, Ta_]) (by simp only [go_sem, seval, a2_, leV, az_, a0_, V.inn, us, T9_, Ta_]))
  refine .seq (.seq (.rgn [] (by simp only [go_sem, seval]; rfl) ?_ ?_))
  ·first | trivial | simp
  refine .condB (by simp only [go_sem, seval]; rfl) (by simp only [go_sem, seval]) (fun h42 => ?_) (fun h42 => ?_)
  ·refine .skip (.seq (.block (.seq (.seq (.rgn [] (by simp only [go_sem, seval]; rfl) ?_ ?_)))))
   ·simp only [T3_] at h42; exact ⟨⟨⟨by omega, by omega⟩, fun h => ⟨h, by omega, by omega⟩⟩, fun h => by rw [h]; rfl⟩
   refine .condB (by simp only [go_sem, seval]; rfl) (by simp only [go_sem, seval]) (fun h54 => ?_) (fun h54 => ?_)
   ·refine .seq (.rgn [] (by simp only [go_sem, seval]; rfl) ?_ ?_)
    ·first | trivial | simp
    refine .ret ⟨.inr rfl, ?_⟩
    exact Out.plain (by simp only [Tryz.results236]; rfl) (by simp only [a4_, bh_, go_sem, seval] <;> (split <;> rfl)) (by simp only [bg_, go_sem, seval] <;> (subst hJ; simp only [T3_] at h42; rw [(m7_ h38).2, if_neg]; intro h; have := List.all_eq_true.1 h _ (b5_ (d := 0) (show k < (c9_ s).length by omega)); rw [aab_ h54] at this; cases this)) (by simp only [go_sem, seval])
   ·refine .skip (.rgn [] (by simp only [go_sem, seval]; rfl) ?_ ?_)
    ·simp only [T3_] at h42; exact ⟨by omega, by omega⟩
    refine .rgn [] (by simp only [go_sem, seval]; rfl) ?_ ?_
    ·first | trivial | simp
    refine Exists.intro (k + 1) ⟨?_, ?_, ?_⟩
    ·simp only [T3_] at h42; exact ⟨by omega, hI.2.1, by rw [acq_ (by omega), hI.2.2, (pu_ h54).1]; rfl⟩
    ·simp at h42; omega
    exact Can.weak (Weak.lit (by simp only [go_sem, seval, a2_, leV, az_, a0_, V.inn, us, T9_, Ta_] <;> ((simp only [T3_] at h42); (have hb := yx_ hI.1 hI.2.1 hI.2.2); (have hd := pu_ h54); rw [aej_ (by omega) (by omega), bt_ (show -9223372036854775808 ≤ (((q.getD k 0).toNat : Int) - 48) by omega) (by omega), bt_ (show -9223372036854775808 ≤ ((b9_ (q.take k) : Int) * 10) by omega) (by omega), bt_ (by omega) (by omega), bt_ (by omega) (by omega), x2_ (show k < q.length by omega)]; omega)) (by simp only [go_sem, seval, a2_, leV, az_, a0_, V.inn, us, T9_, Ta_]) (by simp only [go_sem, seval, a2_, leV, az_, a0_, V.inn, us, T9_, Ta_]))
  ·refine .exit (.seqJ (fun v : Int => ⟨[.no, .no, .no, .no, .no, .i .i64 v, .no, .no, .no, .no, .no, .no, .no, .no, .no, .no, .no, .no, .no, .no, .no, .no, .no, .no, .no, .no, .no, .no, .no, .no, .no, .no, .no, .no, .no, .no, .no, .no, .no, .no, .no, .no, .no, .no, .no, .no, .no, .no, .no, .no, .no, .no, .no, .no, .no, .no, .no, .no, .no, .no, .no, .no, .no, .no, .no, .no, .no], be_ [], us []⟩) (fun v : Int => v = (if il_ s then -(b9_ q : Int) else b9_ q) ∧ q.all ct_ = true) ?_ (fun v hJ => ?_))
   ·refine .seq (.rgn [] (by simp only [go_sem, seval]; rfl) ?_ ?_)
    ·first | trivial | simp
    refine .condB (by simp only [go_sem, seval]; rfl) (by simp only [go_sem, seval]) (fun h63 => ?_) (fun h63 => ?_)
    ·refine .rgn [] (by simp only [go_sem, seval]; rfl) ?_ ?_
     ·first | trivial | simp
     refine Exists.intro (-(b9_ q : Int)) ⟨?_, ?_⟩
     ·simp only [T4_] at h42; (have h2 := hI.2.2); rw [T1_ (by omega)] at h2; rw [h63]; exact ⟨by simp, h2⟩
     exact Can.weak (Weak.lit (by simp only [go_sem, seval, a2_, leV, az_, a0_, V.inn, us, T9_, Ta_] <;> ((simp only [T4_] at h42); (have hb := yx_ hI.1 hI.2.1 hI.2.2); rw [T1_ (by omega)] at hb ⊢; (try first | (rw [bt_ (by omega) (by omega)] <;> omega) | rfl))) (by simp only [go_sem, seval, a2_, leV, az_, a0_, V.inn, us, T9_, Ta_]) (by simp only [go_sem, seval, a2_, leV, az_, a0_, V.inn, us, T9_, Ta_]))
    ·refine .skip ?_
     refine Exists.intro ((b9_ q : Int)) ⟨?_, ?_⟩
     ·simp only [T4_] at h42; (have h2 := hI.2.2); rw [T1_ (by omega)] at h2; rw [h63]; exact ⟨by simp, h2⟩
     exact Can.weak (Weak.lit (by simp only [go_sem, seval, a2_, leV, az_, a0_, V.inn, us, T9_, Ta_] <;> ((simp only [T4_] at h42); (have hb := yx_ hI.1 hI.2.1 hI.2.2); rw [T1_ (by omega)] at hb ⊢; (try first | (rw [bt_ (by omega) (by omega)] <;> omega) | rfl))) (by simp only [go_sem, seval, a2_, leV, az_, a0_, V.inn, us, T9_, Ta_]) (by simp only [go_sem, seval, a2_, leV, az_, a0_, V.inn, us, T9_, Ta_]))
   refine .seq (.rgn [] (by simp only [go_sem, seval]; rfl) ?_ ?_)
   ·first | trivial | simp
   refine .ret ⟨.inr rfl, ?_⟩
   exact Out.plain (by simp only [Tryz.results236]; rfl) (by simp only [a4_, bh_, go_sem, seval] <;> (split <;> rfl)) (by simp only [bg_, go_sem, seval] <;> (obtain ⟨j1, j2⟩ := hJ; (have e : q = c9_ s := (by assumption)); subst e; rw [(m7_ h38).2, if_pos j2, ← j1])) (by simp only [go_sem, seval])
theorem vt_ (s : Str) (hs : s.length ≤ 281474976710656) : ACall En 222 [.s s] [] [.b (cw_ s)] [] := by
 have h := (th_ s).1
 refine aq_ (fn := Tryz.f222) [] Tryz.func222 rfl rfl (by simp) fun C => ?_
 rw [bb_]
 simp only [Tryz.ntmps222, T7_, List.length_nil, Nat.reduceAdd, Nat.reduceSub, List.replicate_succ, List.replicate_zero, List.cons_append, List.nil_append, bl_]
 refine .seq (.rgn [] (by simp only [go_sem, seval]; rfl) ?_ ?_)
 ·first | trivial | simp
 refine .seq (.rgn [bj_ (rx_ s hs)] (by simp only [go_sem, seval]; rfl) ?_ ?_)
 ·first | trivial | simp
 refine .seq (.rgn [] (by simp only [go_sem, seval]; rfl) ?_ ?_)
 ·first | trivial | simp
 refine .ret ⟨.inr rfl, ?_⟩
 exact Out.plain (by simp only [Tryz.results222]; rfl) (by simp only [a4_, bh_, go_sem, seval] <;> (split <;> rfl)) (by simp only [bg_, go_sem, seval] <;> (rw [← h]; simp [Bool.and_assoc])) (by simp only [go_sem, seval])
theorem px_ : ACall En 221 [] [] [.s marks] [] := by
 refine aq_ (fn := Tryz.f221) [] Tryz.func221 rfl rfl (by simp) fun C => ?_
 rw [bb_]
 simp only [Tryz.ntmps221, T7_, List.length_nil, Nat.reduceAdd, Nat.reduceSub, List.replicate_succ, List.replicate_zero, List.cons_append, List.nil_append, bl_]
 refine .seq (.rgn [] (by simp only [go_sem, seval]; rfl) ?_ ?_)
 ·first | trivial | simp
 refine .seq (.rgn [] (by simp only [go_sem, seval]; rfl) ?_ ?_)
 ·first | trivial | simp
 refine .ret ⟨.inr rfl, ?_⟩
 exact Out.plain (by simp only [Tryz.results221]; rfl) (by simp only [a4_, bh_, go_sem, seval] <;> (split <;> rfl)) (by simp only [bg_, go_sem, seval] <;> (rfl)) (by simp only [go_sem, seval])
theorem o8_ (s : Str) (c : UInt8) (hs : s.length ≤ 281474976710656) : ACall En 220 [.s s, .i .u8 c.toNat] [] [.i .i64 (Lib.indexByte s c)] [] := by
 refine aq_ (fn := Tryz.f220) [] Tryz.func220 rfl rfl (by simp) fun C => ?_
 rw [bb_]
 simp only [Tryz.ntmps220, T7_, List.length_nil, Nat.reduceAdd, Nat.reduceSub, List.replicate_succ, List.replicate_zero, List.cons_append, List.nil_append, bl_]
 refine .seq (.rgn [] (by simp only [go_sem, seval]; rfl) ?_ ?_)
 ·(first | trivial | (simp; done) | (simp at h9; simp; omega))
 refine .seq (.seq (.rgn [] (by simp only [go_sem, seval]; rfl) ?_ ?_))
 ·(first | trivial | (simp; done) | (simp at h9; simp; omega))
 refine .block (.loopK (fun k : Nat => ⟨[.s s, .i .u8 c.toNat, .no, .no, .no, .i .i64 k, .no, .no, .no, .no, .no, .no, .no, .no, .no, .no, .no, .no], be_ [], us []⟩) (fun k : Nat => k ≤ s.length ∧ c ∉ s.take k) (fun k : Nat => s.length - k) (0) ?_ ?_ (fun k hI => ?_))
 ·simp
 ·exact Can.weak (Weak.lit (by simp only [go_sem, seval, a2_, leV, az_, a0_, V.inn, us, T9_, Ta_] <;> ((try simp))) (by simp only [go_sem, seval, a2_, leV, az_, a0_, V.inn, us, T9_, Ta_]) (by simp only [go_sem, seval, a2_, leV, az_, a0_, V.inn, us, T9_, Ta_]))
 refine .seq (.seq (.rgn [] (by simp only [go_sem, seval]; rfl) ?_ ?_))
 ·(first | trivial | (simp; done) | (simp at h9; simp; omega))
 refine .condB (by simp only [go_sem, seval]; rfl) (by simp only [go_sem, seval]) (fun h9 => ?_) (fun h9 => ?_)
 ·refine .skip (.seq (.block (.seq (.rgn [] (by simp only [go_sem, seval]; rfl) ?_ ?_))))
  ·(first | trivial | (simp; done) | (simp at h9; simp; omega))
  refine .condB (by simp only [go_sem, seval]; rfl) (by simp only [go_sem, seval]) (fun h16 => ?_) (fun h16 => ?_)
  ·refine .seq (.rgn [] (by simp only [go_sem, seval]; rfl) ?_ ?_)
   ·(first | trivial | (simp; done) | (simp at h9; simp; omega))
   refine .ret ⟨.inr rfl, ?_⟩
   exact Out.plain (by simp only [Tryz.results220]; rfl) (by simp only [a4_, bh_, go_sem, seval] <;> (split <;> rfl)) (by simp only [bg_, go_sem, seval] <;> (simp only [T3_] at h9; rw [u5_ c s k (by omega) hI.2 (ac7_ h16)])) (by simp only [go_sem, seval])
  ·refine .skip (.rgn [] (by simp only [go_sem, seval]; rfl) ?_ ?_)
   ·(first | trivial | (simp; done) | (simp at h9; simp; omega))
   refine Exists.intro (k + 1) ⟨?_, ?_, ?_⟩
   ·simp only [T3_] at h9; exact ⟨by omega, ym_ (by omega) hI.2 (adf_ h16)⟩
   ·simp at h9; omega
   exact Can.weak (Weak.lit (by simp only [go_sem, seval, a2_, leV, az_, a0_, V.inn, us, T9_, Ta_] <;> (rw [bt_ (by simp at h9; omega) (by simp at h9; omega)]; simp)) (by simp only [go_sem, seval, a2_, leV, az_, a0_, V.inn, us, T9_, Ta_]) (by simp only [go_sem, seval, a2_, leV, az_, a0_, V.inn, us, T9_, Ta_]))
 ·refine .exit (.seq (.rgn [] (by simp only [go_sem, seval]; rfl) ?_ ?_))
  ·(first | trivial | (simp; done) | (simp at h9; simp; omega))
  refine .ret ⟨.inr rfl, ?_⟩
  exact Out.plain (by simp only [Tryz.results220]; rfl) (by simp only [a4_, bh_, go_sem, seval] <;> (split <;> rfl)) (by simp only [bg_, go_sem, seval] <;> (simp only [T4_] at h9; have h2 := hI.2; rw [T1_ (by omega)] at h2; rw [ac1_ c s h2])) (by simp only [go_sem, seval])
end
section
set_option maxRecDepth 100000
set_option maxHeartbeats 4000000
def c3_ (c : UInt8) : Int := if cz_ c then 1 else if ct_ c then 2 else if marks.contains c then 3 else if c = 32 then 4 else 0
theorem o0_ (c : UInt8) : ACall En 195 [.i .u8 c.toNat] [] [.i .i64 (c3_ c)] [] := by
 have hf : decide (Lib.indexByte marks c ≥ 0) = marks.contains c := h2_ marks c
 have h1 : (decide ((c.toNat : Int) ≥ 97) && decide ((c.toNat : Int) ≤ 122)) = cz_ c := rfl
 have h2 : (decide ((c.toNat : Int) ≥ 48) && decide ((c.toNat : Int) ≤ 57)) = ct_ c := rfl
 refine aq_ (fn := Tryz.f195) [] Tryz.func195 rfl rfl (by simp) fun C => ?_
 rw [bb_]
 simp only [Tryz.ntmps195, T7_, List.length_nil, Nat.reduceAdd, Nat.reduceSub, List.replicate_succ, List.replicate_zero, List.cons_append, List.nil_append, bl_]
 refine .seq (.rgn [] (by simp only [go_sem, seval]; rfl) ?_ ?_)
 ·(first | trivial | (simp; done) | (intro h; rw [h]; rfl))
 refine .seq (.block (.seq (.rgn [] (by simp only [go_sem, seval]; rfl) ?_ ?_)))
 ·(first | trivial | (simp; done) | (intro h; rw [h]; rfl))
 refine .condB (by simp only [go_sem, seval]; rfl) (by simp only [go_sem, seval]) (fun h3 => ?_) (fun h3 => ?_)
 ·refine .seq (.rgn [] (by simp only [go_sem, seval]; rfl) ?_ ?_)
  ·(first | trivial | (simp; done) | (intro h; rw [h]; rfl))
  refine .ret ⟨.inr rfl, ?_⟩
  exact Out.plain (by simp only [Tryz.results195]; rfl) (by simp only [a4_, bh_, go_sem, seval] <;> (split <;> rfl)) (by simp only [bg_, go_sem, seval] <;> (rw [h1] at h3; unfold c3_; rw [if_pos h3])) (by simp only [go_sem, seval])
 ·refine .seq (.rgn [] (by simp only [go_sem, seval]; rfl) ?_ ?_)
  ·(first | trivial | (simp; done) | (intro h; rw [h]; rfl))
  refine .condB (by simp only [go_sem, seval]; rfl) (by simp only [go_sem, seval]) (fun h10 => ?_) (fun h10 => ?_)
  ·refine .seq (.rgn [] (by simp only [go_sem, seval]; rfl) ?_ ?_)
   ·(first | trivial | (simp; done) | (intro h; rw [h]; rfl))
   refine .ret ⟨.inr rfl, ?_⟩
   exact Out.plain (by simp only [Tryz.results195]; rfl) (by simp only [a4_, bh_, go_sem, seval] <;> (split <;> rfl)) (by simp only [bg_, go_sem, seval] <;> (rw [h1] at h3; rw [h2] at h10; unfold c3_; rw [if_neg (by simp [h3]), if_pos h10])) (by simp only [go_sem, seval])
  ·refine .seq (.rgn [bj_ px_, bj_ (o8_ marks c (by decide))] (by simp only [go_sem, seval]; rfl) ?_ ?_)
   ·(first | trivial | (simp; done) | (intro h; rw [h]; rfl))
   refine .condB (by simp only [go_sem, seval]; rfl) (by simp only [go_sem, seval]) (fun h17 => ?_) (fun h17 => ?_)
   ·refine .seq (.rgn [] (by simp only [go_sem, seval]; rfl) ?_ ?_)
    ·(first | trivial | (simp; done) | (intro h; rw [h]; rfl))
    refine .ret ⟨.inr rfl, ?_⟩
    exact Out.plain (by simp only [Tryz.results195]; rfl) (by simp only [a4_, bh_, go_sem, seval] <;> (split <;> rfl)) (by simp only [bg_, go_sem, seval] <;> (rw [h1] at h3; rw [h2] at h10; rw [hf] at h17; unfold c3_; rw [if_neg (by simp [h3]), if_neg (by simp [h10]), if_pos h17])) (by simp only [go_sem, seval])
   ·refine .seq (.rgn [] (by simp only [go_sem, seval]; rfl) ?_ ?_)
    ·(first | trivial | (simp; done) | (intro h; rw [h]; rfl))
    refine .condB (by simp only [go_sem, seval]; rfl) (by simp only [go_sem, seval]) (fun h22 => ?_) (fun h22 => ?_)
    ·refine .seq (.rgn [] (by simp only [go_sem, seval]; rfl) ?_ ?_)
     ·(first | trivial | (simp; done) | (intro h; rw [h]; rfl))
     refine .ret ⟨.inr rfl, ?_⟩
     exact Out.plain (by simp only [Tryz.results195]; rfl) (by simp only [a4_, bh_, go_sem, seval] <;> (split <;> rfl)) (by simp only [bg_, go_sem, seval] <;> (rw [h1] at h3; rw [h2] at h10; rw [hf] at h17; unfold c3_; rw [if_neg (by simp [h3]), if_neg (by simp [h10]), if_neg (by rw [h17]; decide), if_pos (by apply UInt8.toNat_inj.1; show _ = 32; simp at h22; omega)])) (by simp only [go_sem, seval])
    ·refine .skip (.seq (.rgn [] (by simp only [go_sem, seval]; rfl) ?_ ?_))
     ·(first | trivial | (simp; done) | (intro h; rw [h]; rfl))
     refine .ret ⟨.inr rfl, ?_⟩
     exact Out.plain (by simp only [Tryz.results195]; rfl) (by simp only [a4_, bh_, go_sem, seval] <;> (split <;> rfl)) (by simp only [bg_, go_sem, seval] <;> (rw [h1] at h3; rw [h2] at h10; rw [hf] at h17; unfold c3_; rw [if_neg (by simp [h3]), if_neg (by simp [h10]), if_neg (by rw [h17]; decide), if_neg (by rintro rfl; simp at h22)])) (by simp only [go_sem, seval])
def exC (c : UInt8) (l : Str) : Nat := if c3_ c < 3 then (l.takeWhile fun x => c3_ x == c3_ c).length else 0
def c5_ (l : Str) : Nat := match l with | [] => 1 | c :: r => 1 + exC c r
theorem ko_ {s : Str} {k : Nat} (h : k < s.length) : s.drop k = s.getD k 0 :: s.drop (k + 1) := by
 rw [List.drop_eq_getElem_cons h, T8_, T6_ h]; rfl
theorem afg_ (c : UInt8) (l : Str) : exC c l ≤ l.length := by
 unfold exC; split
 ·exact (List.takeWhile_prefix _).length_le
 ·omega
theorem et_ {s : Str} {k : Nat} (h : k < s.length) : 1 ≤ c5_ (s.drop k) ∧ k + c5_ (s.drop k) ≤ s.length := by
 rw [ko_ h, c5_]
 have := afg_ (s.getD k 0) (s.drop (k + 1))
 rw [List.length_drop] at this
 omega
theorem aec_ {c : UInt8} {s : Str} {j : Nat} (h : j < s.length) (h1 : c3_ c < 3) (h2 : c3_ (s.getD j 0) = c3_ c) : exC c (s.drop j) = 1 + exC c (s.drop (j + 1)) := by
 unfold exC
 rw [if_pos h1, if_pos h1, ko_ h, List.takeWhile_cons, if_pos (by rw [h2]; exact beq_self_eq_true _)]
 simp; omega
theorem aba_ {c : UInt8} {s : Str} {j : Nat} (h : ¬ (j < s.length ∧ c3_ c < 3 ∧ c3_ (s.getD j 0) = c3_ c)) : exC c (s.drop j) = 0 := by
 unfold exC
 split
 ·rename_i h1
  rcases Nat.lt_or_ge j s.length with q | q
  ·rw [ko_ q, List.takeWhile_cons, if_neg (by simp; exact fun e => h ⟨q, h1, e⟩)]; rfl
  ·rw [List.drop_of_length_le q]; rfl
 ·rfl
theorem adg_ (s : Str) (k : Nat) (hk : k < s.length) (hs : s.length ≤ 1000000) : ACall En 150 [.s s, .i .i64 k] [] [.i .i64 ((k + c5_ (s.drop k) : Nat) : Int)] [] := by
 have hE : c5_ (s.drop k) = 1 + exC (s.getD k 0) (s.drop (k + 1)) := by rw [ko_ hk]; rfl
 refine aq_ (fn := Tryz.f150) [] Tryz.func150 rfl rfl (by simp) fun C => ?_
 rw [bb_]
 simp only [Tryz.ntmps150, T7_, List.length_nil, Nat.reduceAdd, Nat.reduceSub, List.replicate_succ, List.replicate_zero, List.cons_append, List.nil_append, bl_]
 refine .seq (.rgn [] (by simp only [go_sem, seval]; rfl) ?_ ?_)
 ·first | trivial | simp
 refine .seq (.rgn [bj_ (o0_ (s.getD k 0))] (by simp only [go_sem, seval]; rfl) ?_ ?_)
 ·exact ⟨by omega, by omega⟩
 refine .seq (.rgn [] (by simp only [go_sem, seval]; rfl) ?_ ?_)
 ·first | trivial | simp
 refine .seq (.block (.loopK (fun j : Nat => ⟨[.s s, .no, .no, .no, .no, .i .i64 (c3_ (s.getD k 0)), .i .i64 j, .no, .no, .no, .no, .no, .no, .no, .no, .no, .no, .no, .no, .no, .no, .no, .no, .no, .no, .no, .no, .no, .no, .no, .no, .no], be_ [], us []⟩) (fun j : Nat => k + 1 ≤ j ∧ j ≤ s.length ∧ k + 1 + exC (s.getD k 0) (s.drop (k + 1)) = j + exC (s.getD k 0) (s.drop j)) (fun j : Nat => s.length - j) (k + 1) ?_ ?_ (fun j hI => ?_)))
 ·exact ⟨Nat.le_refl _, hk, rfl⟩
 ·exact Can.weak (Weak.lit (by simp only [go_sem, seval, a2_, leV, az_, a0_, V.inn, us, T9_, Ta_] <;> (rw [bt_ (by omega) (by omega)]; simp)) (by simp only [go_sem, seval, a2_, leV, az_, a0_, V.inn, us, T9_, Ta_]) (by simp only [go_sem, seval, a2_, leV, az_, a0_, V.inn, us, T9_, Ta_]))
 refine .seq (.seq (.rgn [ef_ (j < s.length) (fun _ => o0_ (s.getD j 0))] (by simp only [go_sem, seval]; rfl) ?_ ?_))
 ·exact ⟨fun h => ⟨h, by omega, by rw [T5_] at h; exact of_decide_eq_true h.1⟩, fun h => ⟨h, by rw [T5_] at h; have h0 := of_decide_eq_true h.1; omega⟩⟩
 refine .condB (by simp only [go_sem, seval]; rfl) (by simp only [go_sem, seval]) (fun h28 => ?_) (fun h28 => ?_)
 ·refine .skip (.block (.rgn [] (by simp only [go_sem, seval]; rfl) ?_ ?_))
  ·first | trivial | simp
  refine Exists.intro (j + 1) ⟨?_, ?_, ?_⟩
  ·rw [T5_, T5_] at h28; have a := of_decide_eq_true h28.1.1; have b := of_decide_eq_true h28.1.2; have c := beq_iff_eq.1 h28.2; have e := aec_ (show j < s.length by omega) b c; exact ⟨by omega, by omega, by omega⟩
  ·rw [T5_, T5_] at h28; have a := of_decide_eq_true h28.1.1; omega
  exact Can.weak (Weak.lit (by simp only [go_sem, seval, a2_, leV, az_, a0_, V.inn, us, T9_, Ta_] <;> (rw [bt_ (by omega) (by omega)]; simp)) (by simp only [go_sem, seval, a2_, leV, az_, a0_, V.inn, us, T9_, Ta_]) (by simp only [go_sem, seval, a2_, leV, az_, a0_, V.inn, us, T9_, Ta_]))
 ·refine .exit (.seq (.rgn [] (by simp only [go_sem, seval]; rfl) ?_ ?_))
  ·first | trivial | simp
  refine .ret ⟨.inr rfl, ?_⟩
  exact Out.plain (by simp only [Tryz.results150]; rfl) (by simp only [a4_, bh_, go_sem, seval] <;> (split <;> rfl)) (by simp only [bg_, go_sem, seval] <;> ((have e := aba_ (c := s.getD k 0) (s := s) (j := j) (fun q => by rw [decide_eq_true (show (j : Int) < s.length by omega), decide_eq_true q.2.1, q.2.2] at h28; simp at h28)); rw [hE, show k + (1 + exC (s.getD k 0) (s.drop (k + 1))) = j by omega])) (by simp only [go_sem, seval])
theorem w1_ (s : Str) : (((s.length : Int) == 1) && decide (Lib.indexByte marks (s.getD 0 0) ≥ 0)) = fj_ s := by
 unfold fj_
 rw [show decide (Lib.indexByte marks (s.getD 0 0) ≥ 0) = marks.contains (s.getD 0 0) from h2_ marks _]
 congr 1
 ·rw [Bool.eq_iff_iff]; simp; omega
 ·cases s <;> rfl
def j1_ (k : Int) (s : Str) : Bool := if k = 1 then e6_ s else if k = 2 then cw_ s else if k = 3 then fj_ s else false
theorem yb_ (k : Int) (s : Str) (hs : s.length ≤ 281474976710656) : ACall En 196 [.i .i64 k, .s s] [] [.b (j1_ k s)] [] := by
 refine aq_ (fn := Tryz.f196) [] Tryz.func196 rfl rfl (by simp) fun C => ?_
 rw [bb_]
 simp only [Tryz.ntmps196, T7_, List.length_nil, Nat.reduceAdd, Nat.reduceSub, List.replicate_succ, List.replicate_zero, List.cons_append, List.nil_append, bl_]
 refine .seq (.rgn [] (by simp only [go_sem, seval]; rfl) ?_ ?_)
 ·first | trivial | simp
 refine .seq (.seq (.rgn [] (by simp only [go_sem, seval]; rfl) ?_ ?_))
 ·first | trivial | simp
 refine .block (.seq (.rgn [] (by simp only [go_sem, seval]; rfl) ?_ ?_))
 ·first | trivial | simp
 refine .condB (by simp only [go_sem, seval]; rfl) (by simp only [go_sem, seval]) (fun h6 => ?_) (fun h6 => ?_)
 ·refine .seq (.rgn [bj_ (ta_ s (by omega))] (by simp only [go_sem, seval]; rfl) ?_ ?_)
  ·first | trivial | simp
  refine .ret ⟨.inr rfl, ?_⟩
  exact Out.plain (by simp only [Tryz.results196]; rfl) (by simp only [a4_, bh_, go_sem, seval] <;> (split <;> rfl)) (by simp only [bg_, go_sem, seval] <;> (simp at h6; simp [j1_, h6])) (by simp only [go_sem, seval])
 ·refine .seq (.rgn [] (by simp only [go_sem, seval]; rfl) ?_ ?_)
  ·first | trivial | simp
  refine .condB (by simp only [go_sem, seval]; rfl) (by simp only [go_sem, seval]) (fun h10 => ?_) (fun h10 => ?_)
  ·refine .seq (.rgn [bj_ (vt_ s hs)] (by simp only [go_sem, seval]; rfl) ?_ ?_)
   ·first | trivial | simp
   refine .ret ⟨.inr rfl, ?_⟩
   exact Out.plain (by simp only [Tryz.results196]; rfl) (by simp only [a4_, bh_, go_sem, seval] <;> (split <;> rfl)) (by simp only [bg_, go_sem, seval] <;> (simp at h6 h10; simp [j1_, h10])) (by simp only [go_sem, seval])
  ·refine .seq (.rgn [] (by simp only [go_sem, seval]; rfl) ?_ ?_)
   ·first | trivial | simp
   refine .condB (by simp only [go_sem, seval]; rfl) (by simp only [go_sem, seval]) (fun h14 => ?_) (fun h14 => ?_)
   ·refine .seq (.rgnD [bj_ px_, ef_ (0 < s.length) (fun _ => o8_ marks (s.getD 0 0) (by decide))] enM (by simp only [go_sem, seval]; rfl) (by rfl) ?_ ?_)
    ·exact ⟨fun h => ⟨h, by have := beq_iff_eq.1 h; omega⟩, fun h => ⟨h, by have := beq_iff_eq.1 h; omega⟩⟩
    refine .ret ⟨.inr rfl, ?_⟩
    exact Out.plain (by simp only [Tryz.results196]; rfl) (by simp only [a4_, bh_, go_sem, seval] <;> (split <;> rfl)) (by simp only [bg_, go_sem, seval] <;> (simp at h6 h10 h14; simp [j1_, h14]; rw [← w1_]; simp)) (by simp only [go_sem, seval])
   ·refine .skip (.seq (.rgn [] (by simp only [go_sem, seval]; rfl) ?_ ?_))
    ·first | trivial | simp
    refine .ret ⟨.inr rfl, ?_⟩
    exact Out.plain (by simp only [Tryz.results196]; rfl) (by simp only [a4_, bh_, go_sem, seval] <;> (split <;> rfl)) (by simp only [bg_, go_sem, seval] <;> (simp at h6 h10 h14; simp [j1_, h6, h10, h14])) (by simp only [go_sem, seval])
theorem t8_ (s : Str) (hs : s.length ≤ 281474976710656) : ACall En 151 [.s s] [] [.i .i64 (dg_ s)] [] := by
 refine aq_ (fn := Tryz.f151) [] Tryz.func151 rfl rfl (by simp) fun C => ?_
 rw [bb_]
 simp only [Tryz.ntmps151, T7_, List.length_nil, Nat.reduceAdd, Nat.reduceSub, List.replicate_succ, List.replicate_zero, List.cons_append, List.nil_append, bl_]
 refine .seq (.rgn [] (by simp only [go_sem, seval]; rfl) ?_ ?_)
 ·first | trivial | simp
 refine .seq (.seq (.rgn [] (by simp only [go_sem, seval]; rfl) ?_ ?_))
 ·first | trivial | simp
 refine .block (.loopK (fun k : Nat => ⟨[.s s, .no, .no, .i .i64 k, .no, .no, .no, .no, .no, .no, .no, .no], be_ [], us []⟩) (fun k : Nat => 1 ≤ k ∧ k ≤ 4 ∧ (2 ≤ k → e6_ s = false) ∧ (3 ≤ k → cw_ s = false) ∧ (4 ≤ k → fj_ s = false)) (fun k : Nat => 4 - k) (1) ?_ ?_ (fun k hI => ?_))
 ·exact ⟨by decide, by decide, fun h => by omega, fun h => by omega, fun h => by omega⟩
 ·exact Can.weak (Weak.lit (by simp only [go_sem, seval, a2_, leV, az_, a0_, V.inn, us, T9_, Ta_] <;> (rfl)) (by simp only [go_sem, seval, a2_, leV, az_, a0_, V.inn, us, T9_, Ta_]) (by simp only [go_sem, seval, a2_, leV, az_, a0_, V.inn, us, T9_, Ta_]))
 refine .seq (.seq (.rgn [] (by simp only [go_sem, seval]; rfl) ?_ ?_))
 ·first | trivial | simp
 refine .condB (by simp only [go_sem, seval]; rfl) (by simp only [go_sem, seval]) (fun h5 => ?_) (fun h5 => ?_)
 ·refine .skip (.seq (.block (.seq (.rgn [bj_ (yb_ k s hs)] (by simp only [go_sem, seval]; rfl) ?_ ?_))))
  ·first | trivial | simp
  refine .condB (by simp only [go_sem, seval]; rfl) (by simp only [go_sem, seval]) (fun h10 => ?_) (fun h10 => ?_)
  ·refine .seq (.rgn [] (by simp only [go_sem, seval]; rfl) ?_ ?_)
   ·first | trivial | simp
   refine .ret ⟨.inr rfl, ?_⟩
   exact Out.plain (by simp only [Tryz.results151]; rfl) (by simp only [a4_, bh_, go_sem, seval] <;> (split <;> rfl)) (by simp only [bg_, go_sem, seval] <;> (simp only [T3_] at h5; unfold dg_; rcases (show k = 1 ∨ k = 2 ∨ k = 3 by omega) with e | e | e <;> subst e <;> simp [j1_] at h10; (simp [h10]); (simp [h10, hI.2.2.1 (by omega)]); (simp [h10, hI.2.2.1 (by omega), hI.2.2.2.1 (by omega)]))) (by simp only [go_sem, seval])
  ·refine .skip (.rgn [] (by simp only [go_sem, seval]; rfl) ?_ ?_)
   ·first | trivial | simp
   refine Exists.intro (k + 1) ⟨?_, ?_, ?_⟩
   ·simp only [T3_] at h5; rcases (show k = 1 ∨ k = 2 ∨ k = 3 by omega) with e | e | e <;> subst e <;> simp [j1_] at h10; exact ⟨by omega, by omega, fun _ => h10, fun h => by omega, fun h => by omega⟩; exact ⟨by omega, by omega, fun _ => hI.2.2.1 (by omega), fun _ => h10, fun h => by omega⟩; exact ⟨by omega, by omega, fun _ => hI.2.2.1 (by omega), fun _ => hI.2.2.2.1 (by omega), fun _ => h10⟩
   ·simp at h5; omega
   exact Can.weak (Weak.lit (by simp only [go_sem, seval, a2_, leV, az_, a0_, V.inn, us, T9_, Ta_] <;> (rw [bt_ (by omega) (by omega)]; simp)) (by simp only [go_sem, seval, a2_, leV, az_, a0_, V.inn, us, T9_, Ta_]) (by simp only [go_sem, seval, a2_, leV, az_, a0_, V.inn, us, T9_, Ta_]))
 ·refine .exit (.seq (.rgn [] (by simp only [go_sem, seval]; rfl) ?_ ?_))
  ·first | trivial | simp
  refine .ret ⟨.inr rfl, ?_⟩
  exact Out.plain (by simp only [Tryz.results151]; rfl) (by simp only [a4_, bh_, go_sem, seval] <;> (split <;> rfl)) (by simp only [bg_, go_sem, seval] <;> (simp only [T4_] at h5; unfold dg_; simp [hI.2.2.1 (by omega), hI.2.2.2.1 (by omega), hI.2.2.2.2 (by omega)])) (by simp only [go_sem, seval])
theorem r7_ {c : UInt8} : (c3_ c == 1) = cz_ c := by
 unfold c3_
 cases h : cz_ c with
 | true => rfl
 | false => simp only [Bool.false_eq_true, if_false]; split <;> (try split) <;> (try split) <;> rfl
theorem s3_ {c : UInt8} : (c3_ c == 2) = ct_ c := by
 unfold c3_
 cases h : cz_ c with
 | true => rw [gc_ h]; rfl
 | false =>
  simp only [Bool.false_eq_true, if_false]
  cases ct_ c with
  | true => rfl
  | false => simp only [Bool.false_eq_true, if_false]; split <;> (try split) <;> rfl
theorem yd_ {c : UInt8} {l : Str} (h : c3_ c ≠ 0) (h4 : c ≠ 32) : c5_ (c :: l) = ea_ (c :: l) := by
 show 1 + (if c3_ c < 3 then (l.takeWhile fun x => c3_ x == c3_ c).length else 0) = max 1 (max ((c :: l).takeWhile cz_).length ((c :: l).takeWhile ct_).length)
 cases hl : cz_ c with
 | true =>
  have e : c3_ c = 1 := by unfold c3_; rw [if_pos hl]
  rw [e, if_pos (by decide), jw_ (gc_ hl), List.takeWhile_cons, if_pos hl]
  have : (fun x => c3_ x == 1) = cz_ := funext fun x => r7_
  rw [this]; simp; omega
 | false =>
  rw [jw_ (p := cz_) hl]
  cases hd : ct_ c with
  | true =>
   have e : c3_ c = 2 := by unfold c3_; rw [if_neg (by simp [hl]), if_pos hd]
   rw [e, if_pos (by decide), List.takeWhile_cons, if_pos hd]
   have : (fun x => c3_ x == 2) = ct_ := funext fun x => s3_
   rw [this]; simp; omega
  | false =>
   rw [jw_ hd]
   have e : ¬ c3_ c < 3 := by
    unfold c3_ at h ⊢
    rw [if_neg (by simp [hl]), if_neg (by simp [hd])] at h ⊢
    split
    ·decide
    ·rename_i hm; rw [if_neg hm, if_neg h4] at h; exact absurd rfl h
   rw [if_neg e]; rfl
theorem ws_ {c : UInt8} {l : Str} (h : c3_ c = 0) : dg_ (c :: l) = 0 := by
 unfold c3_ at h
 have hl : cz_ c = false := by
  cases q : cz_ c with
  | true => rw [q] at h; simp at h
  | false => rfl
 have hd : ct_ c = false := by
  cases q : ct_ c with
  | true => rw [hl, q] at h; simp at h
  | false => rfl
 have hm : marks.contains c = false := by
  cases q : marks.contains c with
  | true => rw [hl, hd, q] at h; simp at h
  | false => rfl
 unfold dg_
 rw [if_neg, if_neg, if_neg]
 ·intro q; simp only [fj_, T5_, List.headD_cons] at q; rw [hm] at q; exact absurd q.2 (by decide)
 ·intro q
  obtain ⟨n, _, e⟩ := d5_.1 q
  have := (li_ c).2 (d1_ n c (by rw [← e]; simp))
  rw [hd] at this; cases this
 ·intro q; simp [e6_, hl] at q
theorem os_ {l : Str} {k : Nat} (h : k < l.length) (col : Int) : e5_ (l.drop k).length (l.drop k) col =
  if l.getD k 0 = 32 then e5_ (l.drop (k + c5_ (l.drop k))).length (l.drop (k + c5_ (l.drop k))) (col + c5_ (l.drop k))
  else if dg_ ((l.drop k).take (c5_ (l.drop k))) = 0 then none
  else (e5_ (l.drop (k + c5_ (l.drop k))).length (l.drop (k + c5_ (l.drop k))) (col + c5_ (l.drop k))).map (⟨dg_ ((l.drop k).take (c5_ (l.drop k))), (l.drop k).take (c5_ (l.drop k)), col⟩ :: ·) := by
 rw [m0_ h]
 have hd := ko_ h
 by_cases h32 : l.getD k 0 = 32
 ·have e : c5_ (l.drop k) = 1 := by
   rw [hd, c5_, h32]; rfl
  rw [if_pos h32, if_pos h32, e]; rfl
 ·rw [if_neg h32, if_neg h32]
  by_cases h0 : c3_ (l.getD k 0) = 0
  ·have p : ∀ m, 1 ≤ m → dg_ ((l.drop k).take m) = 0 := fun m hm => by
    rw [hd]
    obtain ⟨m', rfl⟩ : ∃ m', m = m' + 1 := ⟨m - 1, by omega⟩
    rw [List.take_succ_cons]; exact ws_ h0
   rw [if_pos (p _ (xa_ h).1), if_pos (p _ (et_ h).1)]
  ·have e : c5_ (l.drop k) = ea_ (l.drop k) := by rw [hd]; exact yd_ h0 h32
   rw [e]
theorem ue_ (s : Str) (hs : s.length ≤ 281474976710656) : ACall En 96 [.s s] [] [.sl false (tkR ((ch_ s).getD [])), .b (ch_ s).isSome] [] := by
 refine aq_ (fn := Tryz.f96) [] Tryz.func96 rfl rfl (by simp) fun C => ?_
 rw [bb_]
 simp only [Tryz.ntmps96, T7_, List.length_nil, Nat.reduceAdd, Nat.reduceSub, List.replicate_succ, List.replicate_zero, List.cons_append, List.nil_append, bl_]
 refine .seq (.rgn [] (by simp only [go_sem, seval, at_, ay_]; rfl) ?_ ?_)
 ·(first | trivial | (simp; done) | (simp only [T3_] at h16; have he := et_ (show q.1 < s.length by omega); first | exact ⟨by omega, hI.2.1⟩ | exact ⟨by omega, by omega⟩ | (refine ⟨by omega, by omega, by omega, by omega, by simp⟩) | (refine ⟨⟨⟨by omega, by omega, by omega, by omega, by simp⟩, rfl⟩, ?_⟩; simp; omega)))
 refine .seq (.rgn [] (by simp only [go_sem, seval, at_, ay_]; rfl) ?_ ?_)
 ·(first | trivial | (simp; done) | (simp only [T3_] at h16; have he := et_ (show q.1 < s.length by omega); first | exact ⟨by omega, hI.2.1⟩ | exact ⟨by omega, by omega⟩ | (refine ⟨by omega, by omega, by omega, by omega, by simp⟩) | (refine ⟨⟨⟨by omega, by omega, by omega, by omega, by simp⟩, rfl⟩, ?_⟩; simp; omega)))
 refine .seq (.seq (.rgn [] (by simp only [go_sem, seval, at_, ay_]; rfl) ?_ ?_))
 ·(first | trivial | (simp; done) | (simp only [T3_] at h16; have he := et_ (show q.1 < s.length by omega); first | exact ⟨by omega, hI.2.1⟩ | exact ⟨by omega, by omega⟩ | (refine ⟨by omega, by omega, by omega, by omega, by simp⟩) | (refine ⟨⟨⟨by omega, by omega, by omega, by omega, by simp⟩, rfl⟩, ?_⟩; simp; omega)))
 refine .condB (by simp only [go_sem, seval, at_, ay_]; rfl) (by simp only [go_sem, seval, at_, ay_]) (fun h11 => ?_) (fun h11 => ?_)
 ·refine .seq (.rgn [] (by simp only [go_sem, seval, at_, ay_]; rfl) ?_ ?_)
  ·(first | trivial | (simp; done) | (simp only [T3_] at h16; have he := et_ (show q.1 < s.length by omega); first | exact ⟨by omega, hI.2.1⟩ | exact ⟨by omega, by omega⟩ | (refine ⟨by omega, by omega, by omega, by omega, by simp⟩) | (refine ⟨⟨⟨by omega, by omega, by omega, by omega, by simp⟩, rfl⟩, ?_⟩; simp; omega)))
  refine .ret ⟨.inr rfl, ?_⟩
  exact Out.plainL (by simp only [Tryz.results96]; rfl) (by simp only [a4_, bh_, go_sem, seval, at_, ay_] <;> (split <;> rfl)) (by simp only [bg_, go_sem, seval, at_, ay_] <;> (simp only [T3_] at h11; rw [kx_ (by omega)]; simp [tkR, ler])) (by simp only [go_sem, seval, at_, ay_])
 ·refine .skip (.seq (.rgn [] (by simp only [go_sem, seval, at_, ay_]; rfl) ?_ ?_))
  ·(first | trivial | (simp; done) | (simp only [T3_] at h16; have he := et_ (show q.1 < s.length by omega); first | exact ⟨by omega, hI.2.1⟩ | exact ⟨by omega, by omega⟩ | (refine ⟨by omega, by omega, by omega, by omega, by simp⟩) | (refine ⟨⟨⟨by omega, by omega, by omega, by omega, by simp⟩, rfl⟩, ?_⟩; simp; omega)))
  refine .seq (.block (.loopK (fun q : Nat × List Tk => ⟨[.s s, .no, .no, .no, .ow 60 3 0 q.2.length, .i .i64 q.1, .no, .no, .no, .no, .no, .no, .no, .no, .no, .no, .no, .no, .no, .no, .no, .no, .no, .no, .no, .no, .no, .no, .no, .no, .no, .no, .no, .no, .no, .no, .no, .no, .no, .no, .no, .no, .no, .no], be_ [(60, ⟨40, 3, tkR q.2⟩)], us [60]⟩) (fun q : Nat × List Tk => q.1 ≤ s.length ∧ s.length ≤ 120 ∧ q.2.length ≤ q.1 ∧ e5_ s.length s 0 = (e5_ (s.drop q.1).length (s.drop q.1) q.1).map (q.2 ++ ·)) (fun q : Nat × List Tk => s.length - q.1) ((0, [])) ?_ ?_ (fun q hI => ?_)))
  ·simp at h11; simp; omega
  ·refine Can.trans (Can.ownSlot 4 60 40 3 (by simp only [go_sem, seval, at_, ay_] <;> rfl) (by simp only [go_sem, seval, at_, ay_]) (by simp only [go_sem, seval, at_, ay_] <;> rfl)) ?_
   exact Can.weak (Weak.lit (by simp only [go_sem, seval, at_, ay_, a2_, leV, az_, a0_, V.inn, us, T9_, Ta_] <;> ((try simp))) (by simp only [go_sem, seval, at_, ay_, a2_, leV, az_, a0_, V.inn, us, T9_, Ta_]) (by simp only [go_sem, seval, at_, ay_, a2_, leV, az_, a0_, V.inn, us, T9_, Ta_] <;> (simp [tkR])))
  refine .seq (.seq (.rgn [] (by simp only [go_sem, seval, at_, ay_]; rfl) ?_ ?_))
  ·(first | trivial | (simp; done) | (simp only [T3_] at h16; have he := et_ (show q.1 < s.length by omega); first | exact ⟨by omega, hI.2.1⟩ | exact ⟨by omega, by omega⟩ | (refine ⟨by omega, by omega, by omega, by omega, by simp⟩) | (refine ⟨⟨⟨by omega, by omega, by omega, by omega, by simp⟩, rfl⟩, ?_⟩; simp; omega)))
  refine .condB (by simp only [go_sem, seval, at_, ay_]; rfl) (by simp only [go_sem, seval, at_, ay_]) (fun h16 => ?_) (fun h16 => ?_)
  ·refine .skip (.block (.seq (.rgn [ef_ (q.1 < s.length ∧ s.length ≤ 120) (fun h => adg_ s q.1 h.1 (by omega))] (by simp only [go_sem, seval, at_, ay_]; rfl) ?_ ?_)))
   ·(first | trivial | (simp; done) | (simp only [T3_] at h16; have he := et_ (show q.1 < s.length by omega); first | exact ⟨by omega, hI.2.1⟩ | exact ⟨by omega, by omega⟩ | (refine ⟨by omega, by omega, by omega, by omega, by simp⟩) | (refine ⟨⟨⟨by omega, by omega, by omega, by omega, by simp⟩, rfl⟩, ?_⟩; simp; omega)))
   refine .seqJ (fun p : List Tk => ⟨[.s s, .no, .no, .no, .ow 60 3 0 p.length, .no, .i .i64 ((q.1 + c5_ (s.drop q.1) : Nat) : Int), .no, .no, .no, .no, .no, .no, .no, .no, .no, .no, .no, .no, .no, .no, .no, .no, .no, .no, .no, .no, .no, .no, .no, .no, .no, .no, .no, .no, .no, .no, .no, .no, .no, .no, .no, .no, .no], be_ [(60, ⟨40, 3, tkR p⟩)], us [60]⟩) (fun p : List Tk => p.length ≤ q.1 + 1 ∧ e5_ s.length s 0 = (e5_ (s.drop (q.1 + c5_ (s.drop q.1))).length (s.drop (q.1 + c5_ (s.drop q.1))) ((q.1 + c5_ (s.drop q.1) : Nat) : Int)).map (p ++ ·)) ?_ (fun p hJ => ?_)
   ·refine .seq (.rgn [] (by simp only [go_sem, seval, at_, ay_]; rfl) ?_ ?_)
    ·(first | trivial | (simp; done) | (simp only [T3_] at h16; have he := et_ (show q.1 < s.length by omega); first | exact ⟨by omega, hI.2.1⟩ | exact ⟨by omega, by omega⟩ | (refine ⟨by omega, by omega, by omega, by omega, by simp⟩) | (refine ⟨⟨⟨by omega, by omega, by omega, by omega, by simp⟩, rfl⟩, ?_⟩; simp; omega)))
    refine .condB (by simp only [go_sem, seval, at_, ay_]; rfl) (by simp only [go_sem, seval, at_, ay_]) (fun h23 => ?_) (fun h23 => ?_)
    ·refine .seq (.rgn [bj_ (t8_ ((s.drop q.1).take (c5_ (s.drop q.1))) (by simp; omega))] (by simp only [go_sem, seval, at_, ay_, nm_]; rfl) ?_ ?_)
     ·(first | trivial | (simp; done) | (simp only [T3_] at h16; have he := et_ (show q.1 < s.length by omega); first | exact ⟨by omega, hI.2.1⟩ | exact ⟨by omega, by omega⟩ | (refine ⟨by omega, by omega, by omega, by omega, by simp⟩) | (refine ⟨⟨⟨by omega, by omega, by omega, by omega, by simp⟩, rfl⟩, ?_⟩; simp; omega)))
     refine .seq (.seq (.rgn [] (by simp only [go_sem, seval, at_, ay_]; rfl) ?_ ?_))
     ·(first | trivial | (simp; done) | (simp only [T3_] at h16; have he := et_ (show q.1 < s.length by omega); first | exact ⟨by omega, hI.2.1⟩ | exact ⟨by omega, by omega⟩ | (refine ⟨by omega, by omega, by omega, by omega, by simp⟩) | (refine ⟨⟨⟨by omega, by omega, by omega, by omega, by simp⟩, rfl⟩, ?_⟩; simp; omega)))
     refine .condB (by simp only [go_sem, seval, at_, ay_]; rfl) (by simp only [go_sem, seval, at_, ay_]) (fun h30 => ?_) (fun h30 => ?_)
     ·refine .seq (.rgn [] (by simp only [go_sem, seval, at_, ay_]; rfl) ?_ ?_)
      ·(first | trivial | (simp; done) | (simp only [T3_] at h16; have he := et_ (show q.1 < s.length by omega); first | exact ⟨by omega, hI.2.1⟩ | exact ⟨by omega, by omega⟩ | (refine ⟨by omega, by omega, by omega, by omega, by simp⟩) | (refine ⟨⟨⟨by omega, by omega, by omega, by omega, by simp⟩, rfl⟩, ?_⟩; simp; omega)))
      refine .ret ⟨.inr rfl, ?_⟩
      exact Out.plainL (by simp only [Tryz.results96]; rfl) (by simp only [a4_, bh_, go_sem, seval, at_, ay_] <;> (split <;> rfl)) (by simp only [bg_, go_sem, seval, at_, ay_] <;> (simp only [T3_] at h16; have e := os_ (show q.1 < s.length by omega) q.1; rw [if_neg (fun h => by have := (he_ (by omega)).1 h; rw [this] at h23; simp at h23), if_pos (by simpa using h30)] at e; rw [gq_ hI.2.1, hI.2.2.2, e]; simp [tkR, ler])) (by simp only [go_sem, seval, at_, ay_])
     ·refine .skip (.rgn [] (by simp only [go_sem, seval, at_, ay_, nm_]; rfl) ?_ ?_)
      ·(first | trivial | (simp; done) | (simp only [T3_] at h16; have he := et_ (show q.1 < s.length by omega); first | exact ⟨by omega, hI.2.1⟩ | exact ⟨by omega, by omega⟩ | (refine ⟨by omega, by omega, by omega, by omega, by simp⟩) | (refine ⟨⟨⟨by omega, by omega, by omega, by omega, by simp⟩, rfl⟩, ?_⟩; simp; omega)))
      refine Exists.intro (q.2 ++ [⟨dg_ ((s.drop q.1).take (c5_ (s.drop q.1))), (s.drop q.1).take (c5_ (s.drop q.1)), q.1⟩]) ⟨?_, ?_⟩
      ·simp only [T3_] at h16; obtain ⟨i1, i2, i3, i4⟩ := hI; have e := os_ (show q.1 < s.length by omega) q.1; first | (rw [if_neg (fun h => by have := (he_ (by omega)).1 h; rw [this] at h23; simp at h23), if_neg (by simpa using h30)] at e; exact ⟨by simp only [T2_, List.length_singleton]; omega, by rw [i4, e, Option.map_map]; simp [Function.comp_def]⟩) | (rw [if_pos ((he_ (by omega)).2 (by simpa using h23))] at e; exact ⟨by omega, by rw [i4, e]; rfl⟩)
      refine Can.trans (Can.swap 51 60 (by decide) (by decide) (by decide) (by decide) (by simp only [go_sem, seval, at_, ay_, V.cl]) (by simp only [go_sem, seval, at_, ay_, V.cl]) (by simp only [go_sem, seval, at_, ay_, ck_, sw, swM, rnB] <;> rfl) (by simp only [go_sem, seval, at_, ay_, ck_, sw, swM, rnB] <;> rfl) (by simp only [go_sem, seval, at_, ay_, ck_, sw, swM, rnB] <;> rfl)) ?_
      exact Can.weak (Weak.lit (by simp only [go_sem, seval, at_, ay_, a2_, leV, az_, a0_, V.inn, us, T9_, Ta_] <;> ((try simp))) (by simp only [go_sem, seval, at_, ay_, a2_, leV, az_, a0_, V.inn, us, T9_, Ta_]) (by simp only [go_sem, seval, at_, ay_, a2_, leV, az_, a0_, V.inn, us, T9_, Ta_] <;> ((try simp [nu_]))))
    ·refine .skip ?_
     refine Exists.intro (q.2) ⟨?_, ?_⟩
     ·simp only [T3_] at h16; obtain ⟨i1, i2, i3, i4⟩ := hI; have e := os_ (show q.1 < s.length by omega) q.1; first | (rw [if_neg (fun h => by have := (he_ (by omega)).1 h; rw [this] at h23; simp at h23), if_neg (by simpa using h30)] at e; exact ⟨by simp only [T2_, List.length_singleton]; omega, by rw [i4, e, Option.map_map]; simp [Function.comp_def]⟩) | (rw [if_pos ((he_ (by omega)).2 (by simpa using h23))] at e; exact ⟨by omega, by rw [i4, e]; rfl⟩)
     exact Can.weak (Weak.lit (by simp only [go_sem, seval, at_, ay_, a2_, leV, az_, a0_, V.inn, us, T9_, Ta_] <;> ((try simp))) (by simp only [go_sem, seval, at_, ay_, a2_, leV, az_, a0_, V.inn, us, T9_, Ta_]) (by simp only [go_sem, seval, at_, ay_, a2_, leV, az_, a0_, V.inn, us, T9_, Ta_] <;> ((try simp [nu_]))))
   refine .rgn [] (by simp only [go_sem, seval, at_, ay_]; rfl) ?_ ?_
   ·(first | trivial | (simp; done) | (simp only [T3_] at h16; have he := et_ (show q.1 < s.length by omega); first | exact ⟨by omega, hI.2.1⟩ | exact ⟨by omega, by omega⟩ | (refine ⟨by omega, by omega, by omega, by omega, by simp⟩) | (refine ⟨⟨⟨by omega, by omega, by omega, by omega, by simp⟩, rfl⟩, ?_⟩; simp; omega)))
   refine Exists.intro ((q.1 + c5_ (s.drop q.1), p)) ⟨?_, ?_, ?_⟩
   ·simp only [T3_] at h16; have he := et_ (show q.1 < s.length by omega); exact ⟨by dsimp only; omega, hI.2.1, by dsimp only; have := hJ.1; omega, hJ.2⟩
   ·simp only [T3_] at h16; have := et_ (show q.1 < s.length by omega); dsimp only; omega
   exact Can.weak (Weak.lit (by simp only [go_sem, seval, at_, ay_, a2_, leV, az_, a0_, V.inn, us, T9_, Ta_] <;> ((try simp))) (by simp only [go_sem, seval, at_, ay_, a2_, leV, az_, a0_, V.inn, us, T9_, Ta_]) (by simp only [go_sem, seval, at_, ay_, a2_, leV, az_, a0_, V.inn, us, T9_, Ta_] <;> ((try simp))))
  ·refine .exit (.seq (.rgn [] (by simp only [go_sem, seval, at_, ay_]; rfl) ?_ ?_))
   ·(first | trivial | (simp; done) | (simp only [T3_] at h16; have he := et_ (show q.1 < s.length by omega); first | exact ⟨by omega, hI.2.1⟩ | exact ⟨by omega, by omega⟩ | (refine ⟨by omega, by omega, by omega, by omega, by simp⟩) | (refine ⟨⟨⟨by omega, by omega, by omega, by omega, by simp⟩, rfl⟩, ?_⟩; simp; omega)))
   refine .frz 60 (by simp only [go_sem, seval, at_, ay_]; rfl) (by simp only [go_sem, seval, at_, ay_]) (by simp only [go_sem, seval, at_, ay_]; rfl) (by simp only [go_sem, seval, at_, ay_]; rfl) ?_
   refine .ret ⟨.inr rfl, ?_⟩
   exact Out.plainL (by simp only [Tryz.results96]; rfl) (by simp only [a4_, bh_, go_sem, seval, at_, ay_] <;> (split <;> rfl)) (by simp only [bg_, go_sem, seval, at_, ay_] <;> (simp only [T4_] at h16; rw [gq_ hI.2.1, hI.2.2.2, pv_ (by omega)]; simp [T1_, ay_, leV, bu_])) (by simp only [go_sem, seval, at_, ay_])
end
section
set_option maxRecDepth 100000
set_option maxHeartbeats 4000000
end
section
set_option maxRecDepth 100000
set_option maxHeartbeats 4000000
theorem abh_ {α : Type} {d : α} {a b : List α} {k : Nat} (ha : k < a.length) (hb : k < b.length) (h : a.take k = b.take k) (e : a.getD k d = b.getD k d) : a.take (k + 1) = b.take (k + 1) := by
 rw [List.take_add_one (l := a), List.take_add_one (l := b), h, T6_ ha, T6_ hb]
 rw [T8_, T8_, T6_ ha, T6_ hb] at e
 rw [show a[k] = b[k] by simpa using e]
end
end Go.Proofs.YtefmbmafdgedmaaGreatDoor
