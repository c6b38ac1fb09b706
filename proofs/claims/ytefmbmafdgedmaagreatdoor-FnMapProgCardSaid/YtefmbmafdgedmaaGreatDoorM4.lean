/- Numbers and words of a line: the reference's l12Num, l3Num, TokOk, TokKind, l3Class. Conditions: none. -/
import Derived.Test.YtefmbmafdgedmaaGreatDoorMn
import Derived.Test.YtefmbmafdgedmaaGreatDoorMg
import Derived.Test.YtefmbmafdgedmaaGreatDoorMd
import Derived.Test.YtefmbmafdgedmaaGreatDoorMb
import Derived.Test.YtefmbmafdgedmaaGreatDoorM1
set_option linter.unusedVariables false
set_option linter.unusedSimpArgs false
namespace Go.Proofs.YtefmbmafdgedmaaGreatDoor
section
set_option maxRecDepth 100000
set_option maxHeartbeats 4000000
theorem ho_ (s : Str) : (decide ((s.length : Int) > 0) && (((s.getD 0 0).toNat : Int) == 45)) = (s.head? == some 45) := by
 cases s with
 | nil => rfl
 | cons c r =>
  have h : decide (((c :: r).length : Int) > 0) = true := by simp only [List.length_cons, decide_eq_true_eq]; omega
  rw [h, Bool.true_and]
  simp only [List.getD_cons_zero, List.head?_cons]
  rw [Bool.eq_iff_iff]
  simp only [beq_iff_eq, Option.some.injEq]
  constructor
  ·intro e; apply UInt8.toNat_inj.1; show _ = 45; omega
  ·intro e; rw [e]; rfl
theorem om_ : ∀ (k : Nat) (l : Str), k ≤ l.length → (l.take k).all b7_ = true → b2_ (l.take k) < 10 ^ k
 | 0, l, _, _ => by simp [b2_]
 | k + 1, l, hk, h => by
  have e : l.take (k + 1) = l.take k ++ [l.getD k 0] := by
   rw [List.take_add_one, List.getElem?_eq_getElem hk, List.getD_eq_getElem?_getD, List.getElem?_eq_getElem hk]; rfl
  rw [e, List.all_append, Bool.and_eq_true] at h
  have ih := om_ k l (by omega) h.1
  rw [e, fy_, Nat.pow_succ]
  have hd : b7_ (l.getD k 0) = true := by simpa using h.2
  simp only [b7_, Bool.and_eq_true, decide_eq_true_eq] at hd
  omega
theorem xh_ {l : Str} {k : Nat} (hk : k < l.length) : b2_ (l.take (k + 1)) = b2_ (l.take k) * 10 + ((l.getD k 0).toNat - 48) := by
 have e : l.take (k + 1) = l.take k ++ [l.getD k 0] := by
  rw [List.take_add_one, List.getElem?_eq_getElem hk, List.getD_eq_getElem?_getD, List.getElem?_eq_getElem hk]; rfl
 rw [e, fy_]
theorem zl_ {l : Str} {k : Nat} (hk : k ≤ l.length) (h17 : l.length ≤ 17) (h : (l.take k).all b7_ = true) : b2_ (l.take k) < 100000000000000000 := by
 have := om_ k l hk h
 have h2 : 10 ^ k ≤ 10 ^ 17 := Nat.pow_le_pow_right (by decide) (by omega)
 have h3 : (10 : Nat) ^ 17 = 100000000000000000 := by decide
 omega
def g1_ (s : Str) : Bool := s.head? == some 45
def co_ (s : Str) : Str := if g1_ s then s.tail else s
theorem mn_ (s : Str) : gc_ s = if (co_ s).length = 0 ∨ 17 < (co_ s).length ∨ ((co_ s).head? = some 48 ∧ (1 < (co_ s).length ∨ g1_ s = true)) then (0, false) else if (co_ s).all b7_ then (if g1_ s then -(b2_ (co_ s) : Int) else b2_ (co_ s), true) else (0, false) := rfl
theorem abz_ (q : Str) (h : q ≠ []) : (((q.getD 0 0).toNat : Int) == 48) = decide (q.head? = some 48) := by
 cases q with
 | nil => exact absurd rfl h
 | cons c r =>
  simp only [List.getD_cons_zero, List.head?_cons, Option.some.injEq]
  rw [Bool.eq_iff_iff]
  simp only [beq_iff_eq, decide_eq_true_eq]
  constructor
  ·intro e; apply UInt8.toNat_inj.1; show _ = 48; omega
  ·intro e; rw [e]; rfl
theorem aah_ (q : Str) (n : Bool) : (((q.length : Int) == 0) || decide ((q.length : Int) > 17) || (((q.getD 0 0).toNat : Int) == 48) && (decide ((q.length : Int) > 1) || n)) = decide (q.length = 0 ∨ 17 < q.length ∨ (q.head? = some 48 ∧ (1 < q.length ∨ n = true))) := by
 by_cases hq : q = []
 ·subst hq; simp
 ·rw [abz_ q hq, Bool.eq_iff_iff]
  simp only [Bool.or_eq_true, Bool.and_eq_true, beq_iff_eq, decide_eq_true_eq]
  constructor
  ·rintro ((h | h) | ⟨h1, h2 | h2⟩)
   ·exact .inl (by omega)
   ·exact .inr (.inl (by omega))
   ·exact .inr (.inr ⟨h1, .inl (by omega)⟩)
   ·exact .inr (.inr ⟨h1, .inr h2⟩)
  ·rintro (h | h | ⟨h1, h2 | h2⟩)
   ·exact .inl (.inl (by omega))
   ·exact .inl (.inr (by omega))
   ·exact .inr ⟨h1, .inl (by omega)⟩
   ·exact .inr ⟨h1, .inr h2⟩
theorem tb_ {s : Str} (h : (((co_ s).length : Int) == 0 || decide (((co_ s).length : Int) > 17) || ((((co_ s).getD 0 0).toNat : Int) == 48) && (decide (((co_ s).length : Int) > 1) || g1_ s)) = true) : gc_ s = (0, false) := by
 rw [aah_] at h
 rw [mn_, if_pos (of_decide_eq_true h)]
theorem lo_ {s : Str} (h : (((co_ s).length : Int) == 0 || decide (((co_ s).length : Int) > 17) || ((((co_ s).getD 0 0).toNat : Int) == 48) && (decide (((co_ s).length : Int) > 1) || g1_ s)) = false) : (co_ s).length ≤ 17 ∧ gc_ s = (if (co_ s).all b7_ then (if g1_ s then -(b2_ (co_ s) : Int) else b2_ (co_ s), true) else (0, false)) := by
 rw [aah_] at h
 have := of_decide_eq_false h
 exact ⟨by omega, by rw [mn_, if_neg this]⟩
theorem uc_ (c : UInt8) : ∀ (s : Str) (k : Nat), k < s.length → c ∉ s.take k → s.getD k 0 = c → Lib.indexByte s c = k
 | [], k, h, _, _ => by simp at h
 | b :: s, 0, _, _, e => by
  simp only [List.getD_cons_zero] at e
  subst e
  unfold Lib.indexByte; simp
 | b :: s, k + 1, h, hn, e => by
  simp only [List.take_succ_cons, List.mem_cons, not_or] at hn
  have ih := uc_ c s k (by simpa using h) hn.2 (by simpa using e)
  unfold Lib.indexByte
  rw [if_neg (by simpa using fun q => hn.1 q.symm), ih, if_neg (by simp)]; rfl
theorem aa7_ (c : UInt8) (s : Str) (h : c ∉ s) : Lib.indexByte s c = -1 := by
 have h1 := lz_ s c
 have h2 : ¬ 0 ≤ Lib.indexByte s c := fun q => h ((o5_ s c).1 q)
 omega
theorem acj_ {a b : UInt8} (h : ((a.toNat : Int) == (b.toNat : Int)) = true) : a = b := by
 simp only [beq_iff_eq] at h
 apply UInt8.toNat_inj.1; omega
theorem acc_ {a b : UInt8} (h : ((a.toNat : Int) == (b.toNat : Int)) = false) : a ≠ b := by
 rintro rfl; simp at h
theorem yd_ {s : Str} {k : Nat} {c : UInt8} (hk : k < s.length) (h : c ∉ s.take k) (h2 : s.getD k 0 ≠ c) : c ∉ s.take (k + 1) := by
 rw [List.take_add_one, List.getElem?_eq_getElem hk]
 rw [List.getD_eq_getElem?_getD, List.getElem?_eq_getElem hk] at h2
 simp only [Option.toList, List.mem_append, List.mem_cons, List.not_mem_nil, or_false, not_or]
 exact ⟨h, fun e => h2 e.symm⟩
theorem x6_ {c : UInt8} (h : (decide ((c.toNat : Int) < 48) || decide ((c.toNat : Int) > 57)) = true) : b7_ c = false := by
 simp only [Bool.or_eq_true, decide_eq_true_eq] at h
 rw [Bool.eq_false_iff]
 intro q
 simp only [b7_, Bool.and_eq_true, decide_eq_true_eq] at q
 omega
theorem oi_ {c : UInt8} (h : (decide ((c.toNat : Int) < 48) || decide ((c.toNat : Int) > 57)) = false) : b7_ c = true ∧ 48 ≤ c.toNat ∧ c.toNat ≤ 57 := by
 simp only [Bool.or_eq_false_iff, decide_eq_false_iff_not] at h
 simp only [b7_, Bool.and_eq_true, decide_eq_true_eq]
 omega
theorem aen_ {n : Int} (h1 : 0 ≤ n) (h2 : n < 256) : IntKind.u8.wrap n = n := by
 have e : (2 : Int) ^ IntKind.u8.bits = 256 := rfl
 have e' : IntKind.u8.signed = false := rfl
 simp only [IntKind.wrap, e, e', Bool.false_and, Bool.false_eq_true, if_false]
 omega
theorem abi_ {q : Str} {k : Nat} (hk : k < q.length) : (q.take (k + 1)).all b7_ = ((q.take k).all b7_ && b7_ (q.getD k 0)) := by
 rw [List.take_add_one, List.getElem?_eq_getElem hk, List.all_append, List.getD_eq_getElem?_getD, List.getElem?_eq_getElem hk]; simp
theorem aad_ (s : Str) (hs : s.length ≤ 281474976710656) : ACall En 236 [.s s] [] [.i .i64 (gc_ s).1, .b (gc_ s).2] [] := by
 have hq : (co_ s).length ≤ s.length := by unfold co_; split <;> simp
 have hN := mn_ s
 refine ap_ (fn := Tryz.f236) [] Tryz.func236 rfl rfl (by simp) fun C => ?_
 rw [a0_]
 simp only [Tryz.ntmps236, List.length_cons, List.length_nil, Nat.reduceAdd, Nat.reduceSub, List.replicate_succ, List.replicate_zero, List.cons_append, List.nil_append, bq_]
 refine .seq (.rgn [] (by simp only [go_sem, seval]; rfl) ?_ ?_)
 ·first | trivial | simp
 refine .seq (.rgn [] (by simp only [go_sem, seval]; rfl) ?_ ?_)
 ·first | trivial | simp
 refine .seqJ (fun q : Str => ⟨[.s q, .no, .no, .no, .b (g1_ s), .no, .no, .no, .no, .no, .no, .no, .no, .no, .no, .no, .no, .no, .no, .no, .no, .no, .no, .no, .no, .no, .no, .no, .no, .no, .no, .no, .no, .no, .no, .no, .no, .no, .no, .no, .no, .no, .no, .no, .no, .no, .no, .no, .no, .no, .no, .no, .no, .no, .no, .no, .no, .no, .no, .no, .no, .no, .no, .no, .no, .no, .no], a6_ [], us []⟩) (fun q : Str => q = co_ s) ?_ (fun q hJ => ?_)
 ·refine .seq (.rgn [] (by simp only [go_sem, seval]; rfl) ?_ ?_)
  ·first | trivial | simp
  refine .condB (by simp only [go_sem, seval]; rfl) (by simp only [go_sem, seval]) (fun h15 => ?_) (fun h15 => ?_)
  ·refine .rgn [] (by simp only [go_sem, seval]; rfl) ?_ ?_
   ·rw [Bool.and_eq_true] at h15; have h0 := of_decide_eq_true h15.1; omega
   refine Exists.intro (s.drop 1) ⟨?_, ?_⟩
   ·rw [ho_] at h15; unfold co_ g1_; rw [h15]; simp
   exact Can.weak (Weak.lit (by simp only [go_sem, seval, aw_, leV, at_, au_, V.inn, us, true_or, or_true] <;> (first | (refine ⟨by simp [List.take_of_length_le], ?_⟩; rw [ho_]; rfl) | (rw [ho_]; rfl))) (by simp only [go_sem, seval, aw_, leV, at_, au_, V.inn, us, true_or, or_true]) (by simp only [go_sem, seval, aw_, leV, at_, au_, V.inn, us, true_or, or_true]))
  ·refine .skip ?_
   refine Exists.intro (s) ⟨?_, ?_⟩
   ·rw [ho_] at h15; unfold co_ g1_; rw [h15]; simp
   exact Can.weak (Weak.lit (by simp only [go_sem, seval, aw_, leV, at_, au_, V.inn, us, true_or, or_true] <;> (first | (refine ⟨by simp [List.take_of_length_le], ?_⟩; rw [ho_]; rfl) | (rw [ho_]; rfl))) (by simp only [go_sem, seval, aw_, leV, at_, au_, V.inn, us, true_or, or_true]) (by simp only [go_sem, seval, aw_, leV, at_, au_, V.inn, us, true_or, or_true]))
 refine .seq (.seq (.rgn [] (by simp only [go_sem, seval]; rfl) ?_ ?_))
 ·refine ⟨⟨⟨⟨fun h => by rw [h]; rfl, fun h => ⟨h, by simp only [Bool.not_eq_true', Bool.or_eq_false_iff, beq_eq_false_iff_ne] at h; have := h.1; omega⟩⟩, fun h => ⟨h, fun h2 => by rw [h, h2]; rfl⟩⟩, fun h => ⟨h, fun h2 => by rw [h, h2]; rfl⟩⟩, fun h => by rw [h]; rfl⟩
 refine .condB (by simp only [go_sem, seval]; rfl) (by simp only [go_sem, seval]) (fun h38 => ?_) (fun h38 => ?_)
 ·refine .seq (.rgn [] (by simp only [go_sem, seval]; rfl) ?_ ?_)
  ·first | trivial | simp
  refine .ret ⟨.inr rfl, ?_⟩
  exact Out.plain (by simp only [Tryz.results236]; rfl) (by simp only [a1_, bc_, go_sem, seval] <;> (split <;> rfl)) (by simp only [ba_, go_sem, seval] <;> (subst hJ; rw [tb_ h38])) (by simp only [go_sem, seval])
 ·refine .skip (.seq (.rgn [] (by simp only [go_sem, seval]; rfl) ?_ ?_))
  ·first | trivial | simp
  refine .seq (.seq (.rgn [] (by simp only [go_sem, seval]; rfl) ?_ ?_))
  ·first | trivial | simp
  refine .block (.loopK (fun k : Nat => ⟨[.s q, .no, .no, .no, .b (g1_ s), .i .i64 (b2_ (q.take k)), .i .i64 k, .no, .no, .no, .no, .no, .no, .no, .no, .no, .no, .no, .no, .no, .no, .no, .no, .no, .no, .no, .no, .no, .no, .no, .no, .no, .no, .no, .no, .no, .no, .no, .no, .no, .no, .no, .no, .no, .no, .no, .no, .no, .no, .no, .no, .no, .no, .no, .no, .no, .no, .no, .no, .no, .no, .no, .no, .no, .no, .no, .no], a6_ [], us []⟩) (fun k : Nat => k ≤ q.length ∧ q.length ≤ 17 ∧ (q.take k).all b7_ = true) (fun k : Nat => q.length - k) (0) ?_ ?_ (fun k hI => ?_))
  ·subst hJ; exact ⟨Nat.zero_le _, (lo_ h38).1, by simp⟩
  ·exact Can.weak (Weak.lit (by simp only [go_sem, seval, aw_, leV, at_, au_, V.inn, us, true_or, or_true] <;> (simp [b2_])) (by simp only [go_sem, seval, aw_, leV, at_, au_, V.inn, us, true_or, or_true]) (by simp only [go_sem, seval, aw_, leV, at_, au_, V.inn, us, true_or, or_true]))
  refine .seq (.seq (.rgn [] (by simp only [go_sem, seval]; rfl) ?_ ?_))
  ·first | trivial | simp
  refine .condB (by simp only [go_sem, seval]; rfl) (by simp only [go_sem, seval]) (fun h42 => ?_) (fun h42 => ?_)
  ·refine .skip (.seq (.block (.seq (.seq (.rgn [] (by simp only [go_sem, seval]; rfl) ?_ ?_)))))
   ·simp only [decide_eq_true_eq] at h42; exact ⟨⟨⟨by omega, by omega⟩, fun h => ⟨h, by omega, by omega⟩⟩, fun h => by rw [h]; rfl⟩
   refine .condB (by simp only [go_sem, seval]; rfl) (by simp only [go_sem, seval]) (fun h54 => ?_) (fun h54 => ?_)
   ·refine .seq (.rgn [] (by simp only [go_sem, seval]; rfl) ?_ ?_)
    ·first | trivial | simp
    refine .ret ⟨.inr rfl, ?_⟩
    exact Out.plain (by simp only [Tryz.results236]; rfl) (by simp only [a1_, bc_, go_sem, seval] <;> (split <;> rfl)) (by simp only [ba_, go_sem, seval] <;> (subst hJ; simp only [decide_eq_true_eq] at h42; rw [(lo_ h38).2, if_neg]; intro h; have := List.all_eq_true.1 h _ (bh_ (d := 0) (show k < (co_ s).length by omega)); rw [x6_ h54] at this; cases this)) (by simp only [go_sem, seval])
   ·refine .skip (.rgn [] (by simp only [go_sem, seval]; rfl) ?_ ?_)
    ·simp only [decide_eq_true_eq] at h42; exact ⟨by omega, by omega⟩
    refine .rgn [] (by simp only [go_sem, seval]; rfl) ?_ ?_
    ·first | trivial | simp
    refine Exists.intro (k + 1) ⟨?_, ?_, ?_⟩
    ·simp only [decide_eq_true_eq] at h42; exact ⟨by omega, hI.2.1, by rw [abi_ (by omega), hI.2.2, (oi_ h54).1]; rfl⟩
    ·simp at h42; omega
    exact Can.weak (Weak.lit (by simp only [go_sem, seval, aw_, leV, at_, au_, V.inn, us, true_or, or_true] <;> ((simp only [decide_eq_true_eq] at h42); (have hb := zl_ hI.1 hI.2.1 hI.2.2); (have hd := oi_ h54); rw [aen_ (by omega) (by omega), a7_ (show -9223372036854775808 ≤ (((q.getD k 0).toNat : Int) - 48) by omega) (by omega), a7_ (show -9223372036854775808 ≤ ((b2_ (q.take k) : Int) * 10) by omega) (by omega), a7_ (by omega) (by omega), a7_ (by omega) (by omega), xh_ (show k < q.length by omega)]; omega)) (by simp only [go_sem, seval, aw_, leV, at_, au_, V.inn, us, true_or, or_true]) (by simp only [go_sem, seval, aw_, leV, at_, au_, V.inn, us, true_or, or_true]))
  ·refine .exit (.seqJ (fun v : Int => ⟨[.no, .no, .no, .no, .no, .i .i64 v, .no, .no, .no, .no, .no, .no, .no, .no, .no, .no, .no, .no, .no, .no, .no, .no, .no, .no, .no, .no, .no, .no, .no, .no, .no, .no, .no, .no, .no, .no, .no, .no, .no, .no, .no, .no, .no, .no, .no, .no, .no, .no, .no, .no, .no, .no, .no, .no, .no, .no, .no, .no, .no, .no, .no, .no, .no, .no, .no, .no, .no], a6_ [], us []⟩) (fun v : Int => v = (if g1_ s then -(b2_ q : Int) else b2_ q) ∧ q.all b7_ = true) ?_ (fun v hJ => ?_))
   ·refine .seq (.rgn [] (by simp only [go_sem, seval]; rfl) ?_ ?_)
    ·first | trivial | simp
    refine .condB (by simp only [go_sem, seval]; rfl) (by simp only [go_sem, seval]) (fun h63 => ?_) (fun h63 => ?_)
    ·refine .rgn [] (by simp only [go_sem, seval]; rfl) ?_ ?_
     ·first | trivial | simp
     refine Exists.intro (-(b2_ q : Int)) ⟨?_, ?_⟩
     ·simp only [decide_eq_false_iff_not] at h42; (have h2 := hI.2.2); rw [List.take_of_length_le (by omega)] at h2; rw [h63]; exact ⟨by simp, h2⟩
     exact Can.weak (Weak.lit (by simp only [go_sem, seval, aw_, leV, at_, au_, V.inn, us, true_or, or_true] <;> ((simp only [decide_eq_false_iff_not] at h42); (have hb := zl_ hI.1 hI.2.1 hI.2.2); rw [List.take_of_length_le (by omega)] at hb ⊢; (try first | (rw [a7_ (by omega) (by omega)] <;> omega) | rfl))) (by simp only [go_sem, seval, aw_, leV, at_, au_, V.inn, us, true_or, or_true]) (by simp only [go_sem, seval, aw_, leV, at_, au_, V.inn, us, true_or, or_true]))
    ·refine .skip ?_
     refine Exists.intro ((b2_ q : Int)) ⟨?_, ?_⟩
     ·simp only [decide_eq_false_iff_not] at h42; (have h2 := hI.2.2); rw [List.take_of_length_le (by omega)] at h2; rw [h63]; exact ⟨by simp, h2⟩
     exact Can.weak (Weak.lit (by simp only [go_sem, seval, aw_, leV, at_, au_, V.inn, us, true_or, or_true] <;> ((simp only [decide_eq_false_iff_not] at h42); (have hb := zl_ hI.1 hI.2.1 hI.2.2); rw [List.take_of_length_le (by omega)] at hb ⊢; (try first | (rw [a7_ (by omega) (by omega)] <;> omega) | rfl))) (by simp only [go_sem, seval, aw_, leV, at_, au_, V.inn, us, true_or, or_true]) (by simp only [go_sem, seval, aw_, leV, at_, au_, V.inn, us, true_or, or_true]))
   refine .seq (.rgn [] (by simp only [go_sem, seval]; rfl) ?_ ?_)
   ·first | trivial | simp
   refine .ret ⟨.inr rfl, ?_⟩
   exact Out.plain (by simp only [Tryz.results236]; rfl) (by simp only [a1_, bc_, go_sem, seval] <;> (split <;> rfl)) (by simp only [ba_, go_sem, seval] <;> (obtain ⟨j1, j2⟩ := hJ; (have e : q = co_ s := (by assumption)); subst e; rw [(lo_ h38).2, if_pos j2, ← j1])) (by simp only [go_sem, seval])
theorem aco_ (s : Str) (hs : s.length ≤ 281474976710656) : ACall En 222 [.s s] [] [.b (de_ s)] [] := by
 have h := (x3_ s).1
 refine ap_ (fn := Tryz.f222) [] Tryz.func222 rfl rfl (by simp) fun C => ?_
 rw [a0_]
 simp only [Tryz.ntmps222, List.length_cons, List.length_nil, Nat.reduceAdd, Nat.reduceSub, List.replicate_succ, List.replicate_zero, List.cons_append, List.nil_append, bq_]
 refine .seq (.rgn [] (by simp only [go_sem, seval]; rfl) ?_ ?_)
 ·first | trivial | simp
 refine .seq (.rgn [a5_ (aad_ s hs)] (by simp only [go_sem, seval]; rfl) ?_ ?_)
 ·first | trivial | simp
 refine .seq (.rgn [] (by simp only [go_sem, seval]; rfl) ?_ ?_)
 ·first | trivial | simp
 refine .ret ⟨.inr rfl, ?_⟩
 exact Out.plain (by simp only [Tryz.results222]; rfl) (by simp only [a1_, bc_, go_sem, seval] <;> (split <;> rfl)) (by simp only [ba_, go_sem, seval] <;> (rw [← h]; simp [Bool.and_assoc])) (by simp only [go_sem, seval])
theorem oh_ : ACall En 221 [] [] [.s marks] [] := by
 refine ap_ (fn := Tryz.f221) [] Tryz.func221 rfl rfl (by simp) fun C => ?_
 rw [a0_]
 simp only [Tryz.ntmps221, List.length_cons, List.length_nil, Nat.reduceAdd, Nat.reduceSub, List.replicate_succ, List.replicate_zero, List.cons_append, List.nil_append, bq_]
 refine .seq (.rgn [] (by simp only [go_sem, seval]; rfl) ?_ ?_)
 ·first | trivial | simp
 refine .seq (.rgn [] (by simp only [go_sem, seval]; rfl) ?_ ?_)
 ·first | trivial | simp
 refine .ret ⟨.inr rfl, ?_⟩
 exact Out.plain (by simp only [Tryz.results221]; rfl) (by simp only [a1_, bc_, go_sem, seval] <;> (split <;> rfl)) (by simp only [ba_, go_sem, seval] <;> (rfl)) (by simp only [go_sem, seval])
theorem nm_ (s : Str) (c : UInt8) (hs : s.length ≤ 281474976710656) : ACall En 220 [.s s, .i .u8 c.toNat] [] [.i .i64 (Lib.indexByte s c)] [] := by
 refine ap_ (fn := Tryz.f220) [] Tryz.func220 rfl rfl (by simp) fun C => ?_
 rw [a0_]
 simp only [Tryz.ntmps220, List.length_cons, List.length_nil, Nat.reduceAdd, Nat.reduceSub, List.replicate_succ, List.replicate_zero, List.cons_append, List.nil_append, bq_]
 refine .seq (.rgn [] (by simp only [go_sem, seval]; rfl) ?_ ?_)
 ·(first | trivial | (simp; done) | (simp at h9; simp; omega))
 refine .seq (.seq (.rgn [] (by simp only [go_sem, seval]; rfl) ?_ ?_))
 ·(first | trivial | (simp; done) | (simp at h9; simp; omega))
 refine .block (.loopK (fun k : Nat => ⟨[.s s, .i .u8 c.toNat, .no, .no, .no, .i .i64 k, .no, .no, .no, .no, .no, .no, .no, .no, .no, .no, .no, .no], a6_ [], us []⟩) (fun k : Nat => k ≤ s.length ∧ c ∉ s.take k) (fun k : Nat => s.length - k) (0) ?_ ?_ (fun k hI => ?_))
 ·simp
 ·exact Can.weak (Weak.lit (by simp only [go_sem, seval, aw_, leV, at_, au_, V.inn, us, true_or, or_true] <;> ((try simp))) (by simp only [go_sem, seval, aw_, leV, at_, au_, V.inn, us, true_or, or_true]) (by simp only [go_sem, seval, aw_, leV, at_, au_, V.inn, us, true_or, or_true]))
 refine .seq (.seq (.rgn [] (by simp only [go_sem, seval]; rfl) ?_ ?_))
 ·(first | trivial | (simp; done) | (simp at h9; simp; omega))
 refine .condB (by simp only [go_sem, seval]; rfl) (by simp only [go_sem, seval]) (fun h9 => ?_) (fun h9 => ?_)
 ·refine .skip (.seq (.block (.seq (.rgn [] (by simp only [go_sem, seval]; rfl) ?_ ?_))))
  ·(first | trivial | (simp; done) | (simp at h9; simp; omega))
  refine .condB (by simp only [go_sem, seval]; rfl) (by simp only [go_sem, seval]) (fun h16 => ?_) (fun h16 => ?_)
  ·refine .seq (.rgn [] (by simp only [go_sem, seval]; rfl) ?_ ?_)
   ·(first | trivial | (simp; done) | (simp at h9; simp; omega))
   refine .ret ⟨.inr rfl, ?_⟩
   exact Out.plain (by simp only [Tryz.results220]; rfl) (by simp only [a1_, bc_, go_sem, seval] <;> (split <;> rfl)) (by simp only [ba_, go_sem, seval] <;> (simp only [decide_eq_true_eq] at h9; rw [uc_ c s k (by omega) hI.2 (acj_ h16)])) (by simp only [go_sem, seval])
  ·refine .skip (.rgn [] (by simp only [go_sem, seval]; rfl) ?_ ?_)
   ·(first | trivial | (simp; done) | (simp at h9; simp; omega))
   refine Exists.intro (k + 1) ⟨?_, ?_, ?_⟩
   ·simp only [decide_eq_true_eq] at h9; exact ⟨by omega, yd_ (by omega) hI.2 (acc_ h16)⟩
   ·simp at h9; omega
   exact Can.weak (Weak.lit (by simp only [go_sem, seval, aw_, leV, at_, au_, V.inn, us, true_or, or_true] <;> (rw [a7_ (by simp at h9; omega) (by simp at h9; omega)]; simp)) (by simp only [go_sem, seval, aw_, leV, at_, au_, V.inn, us, true_or, or_true]) (by simp only [go_sem, seval, aw_, leV, at_, au_, V.inn, us, true_or, or_true]))
 ·refine .exit (.seq (.rgn [] (by simp only [go_sem, seval]; rfl) ?_ ?_))
  ·(first | trivial | (simp; done) | (simp at h9; simp; omega))
  refine .ret ⟨.inr rfl, ?_⟩
  exact Out.plain (by simp only [Tryz.results220]; rfl) (by simp only [a1_, bc_, go_sem, seval] <;> (split <;> rfl)) (by simp only [ba_, go_sem, seval] <;> (simp only [decide_eq_false_iff_not] at h9; have h2 := hI.2; rw [List.take_of_length_le (by omega)] at h2; rw [aa7_ c s h2])) (by simp only [go_sem, seval])
end
section
set_option maxRecDepth 100000
set_option maxHeartbeats 4000000
def cm_ (c : UInt8) : Int := if cf_ c then 1 else if b7_ c then 2 else if marks.contains c then 3 else if c = 32 then 4 else 0
theorem og_ (c : UInt8) : ACall En 195 [.i .u8 c.toNat] [] [.i .i64 (cm_ c)] [] := by
 have hf : decide (Lib.indexByte marks c ≥ 0) = marks.contains c := gt_ marks c
 have h1 : (decide ((c.toNat : Int) ≥ 97) && decide ((c.toNat : Int) ≤ 122)) = cf_ c := rfl
 have h2 : (decide ((c.toNat : Int) ≥ 48) && decide ((c.toNat : Int) ≤ 57)) = b7_ c := rfl
 refine ap_ (fn := Tryz.f195) [] Tryz.func195 rfl rfl (by simp) fun C => ?_
 rw [a0_]
 simp only [Tryz.ntmps195, List.length_cons, List.length_nil, Nat.reduceAdd, Nat.reduceSub, List.replicate_succ, List.replicate_zero, List.cons_append, List.nil_append, bq_]
 refine .seq (.rgn [] (by simp only [go_sem, seval]; rfl) ?_ ?_)
 ·(first | trivial | (simp; done) | (intro h; rw [h]; rfl))
 refine .seq (.block (.seq (.rgn [] (by simp only [go_sem, seval]; rfl) ?_ ?_)))
 ·(first | trivial | (simp; done) | (intro h; rw [h]; rfl))
 refine .condB (by simp only [go_sem, seval]; rfl) (by simp only [go_sem, seval]) (fun h3 => ?_) (fun h3 => ?_)
 ·refine .seq (.rgn [] (by simp only [go_sem, seval]; rfl) ?_ ?_)
  ·(first | trivial | (simp; done) | (intro h; rw [h]; rfl))
  refine .ret ⟨.inr rfl, ?_⟩
  exact Out.plain (by simp only [Tryz.results195]; rfl) (by simp only [a1_, bc_, go_sem, seval] <;> (split <;> rfl)) (by simp only [ba_, go_sem, seval] <;> (rw [h1] at h3; unfold cm_; rw [if_pos h3])) (by simp only [go_sem, seval])
 ·refine .seq (.rgn [] (by simp only [go_sem, seval]; rfl) ?_ ?_)
  ·(first | trivial | (simp; done) | (intro h; rw [h]; rfl))
  refine .condB (by simp only [go_sem, seval]; rfl) (by simp only [go_sem, seval]) (fun h10 => ?_) (fun h10 => ?_)
  ·refine .seq (.rgn [] (by simp only [go_sem, seval]; rfl) ?_ ?_)
   ·(first | trivial | (simp; done) | (intro h; rw [h]; rfl))
   refine .ret ⟨.inr rfl, ?_⟩
   exact Out.plain (by simp only [Tryz.results195]; rfl) (by simp only [a1_, bc_, go_sem, seval] <;> (split <;> rfl)) (by simp only [ba_, go_sem, seval] <;> (rw [h1] at h3; rw [h2] at h10; unfold cm_; rw [if_neg (by simp [h3]), if_pos h10])) (by simp only [go_sem, seval])
  ·refine .seq (.rgn [a5_ oh_, a5_ (nm_ marks c (by decide))] (by simp only [go_sem, seval]; rfl) ?_ ?_)
   ·(first | trivial | (simp; done) | (intro h; rw [h]; rfl))
   refine .condB (by simp only [go_sem, seval]; rfl) (by simp only [go_sem, seval]) (fun h17 => ?_) (fun h17 => ?_)
   ·refine .seq (.rgn [] (by simp only [go_sem, seval]; rfl) ?_ ?_)
    ·(first | trivial | (simp; done) | (intro h; rw [h]; rfl))
    refine .ret ⟨.inr rfl, ?_⟩
    exact Out.plain (by simp only [Tryz.results195]; rfl) (by simp only [a1_, bc_, go_sem, seval] <;> (split <;> rfl)) (by simp only [ba_, go_sem, seval] <;> (rw [h1] at h3; rw [h2] at h10; rw [hf] at h17; unfold cm_; rw [if_neg (by simp [h3]), if_neg (by simp [h10]), if_pos h17])) (by simp only [go_sem, seval])
   ·refine .seq (.rgn [] (by simp only [go_sem, seval]; rfl) ?_ ?_)
    ·(first | trivial | (simp; done) | (intro h; rw [h]; rfl))
    refine .condB (by simp only [go_sem, seval]; rfl) (by simp only [go_sem, seval]) (fun h22 => ?_) (fun h22 => ?_)
    ·refine .seq (.rgn [] (by simp only [go_sem, seval]; rfl) ?_ ?_)
     ·(first | trivial | (simp; done) | (intro h; rw [h]; rfl))
     refine .ret ⟨.inr rfl, ?_⟩
     exact Out.plain (by simp only [Tryz.results195]; rfl) (by simp only [a1_, bc_, go_sem, seval] <;> (split <;> rfl)) (by simp only [ba_, go_sem, seval] <;> (rw [h1] at h3; rw [h2] at h10; rw [hf] at h17; unfold cm_; rw [if_neg (by simp [h3]), if_neg (by simp [h10]), if_neg (by rw [h17]; decide), if_pos (by apply UInt8.toNat_inj.1; show _ = 32; simp at h22; omega)])) (by simp only [go_sem, seval])
    ·refine .skip (.seq (.rgn [] (by simp only [go_sem, seval]; rfl) ?_ ?_))
     ·(first | trivial | (simp; done) | (intro h; rw [h]; rfl))
     refine .ret ⟨.inr rfl, ?_⟩
     exact Out.plain (by simp only [Tryz.results195]; rfl) (by simp only [a1_, bc_, go_sem, seval] <;> (split <;> rfl)) (by simp only [ba_, go_sem, seval] <;> (rw [h1] at h3; rw [h2] at h10; rw [hf] at h17; unfold cm_; rw [if_neg (by simp [h3]), if_neg (by simp [h10]), if_neg (by rw [h17]; decide), if_neg (by rintro rfl; simp at h22)])) (by simp only [go_sem, seval])
def exC (c : UInt8) (l : Str) : Nat := if cm_ c < 3 then (l.takeWhile fun x => cm_ x == cm_ c).length else 0
def cn_ (l : Str) : Nat := match l with | [] => 1 | c :: r => 1 + exC c r
theorem ic_ {s : Str} {k : Nat} (h : k < s.length) : s.drop k = s.getD k 0 :: s.drop (k + 1) := by
 rw [List.drop_eq_getElem_cons h, List.getD_eq_getElem?_getD, List.getElem?_eq_getElem h]; rfl
theorem aep_ (c : UInt8) (l : Str) : exC c l ≤ l.length := by
 unfold exC; split
 ·exact (List.takeWhile_prefix _).length_le
 ·omega
theorem dj_ {s : Str} {k : Nat} (h : k < s.length) : 1 ≤ cn_ (s.drop k) ∧ k + cn_ (s.drop k) ≤ s.length := by
 rw [ic_ h, cn_]
 have := aep_ (s.getD k 0) (s.drop (k + 1))
 rw [List.length_drop] at this
 omega
theorem aea_ {c : UInt8} {s : Str} {j : Nat} (h : j < s.length) (h1 : cm_ c < 3) (h2 : cm_ (s.getD j 0) = cm_ c) : exC c (s.drop j) = 1 + exC c (s.drop (j + 1)) := by
 unfold exC
 rw [if_pos h1, if_pos h1, ic_ h, List.takeWhile_cons, if_pos (by rw [h2]; exact beq_self_eq_true _)]
 simp; omega
theorem yj_ {c : UInt8} {s : Str} {j : Nat} (h : ¬ (j < s.length ∧ cm_ c < 3 ∧ cm_ (s.getD j 0) = cm_ c)) : exC c (s.drop j) = 0 := by
 unfold exC
 split
 ·rename_i h1
  rcases Nat.lt_or_ge j s.length with q | q
  ·rw [ic_ q, List.takeWhile_cons, if_neg (by simp; exact fun e => h ⟨q, h1, e⟩)]; rfl
  ·rw [List.drop_of_length_le q]; rfl
 ·rfl
theorem ab1_ (s : Str) (k : Nat) (hk : k < s.length) (hs : s.length ≤ 1000000) : ACall En 150 [.s s, .i .i64 k] [] [.i .i64 ((k + cn_ (s.drop k) : Nat) : Int)] [] := by
 have hE : cn_ (s.drop k) = 1 + exC (s.getD k 0) (s.drop (k + 1)) := by rw [ic_ hk]; rfl
 refine ap_ (fn := Tryz.f150) [] Tryz.func150 rfl rfl (by simp) fun C => ?_
 rw [a0_]
 simp only [Tryz.ntmps150, List.length_cons, List.length_nil, Nat.reduceAdd, Nat.reduceSub, List.replicate_succ, List.replicate_zero, List.cons_append, List.nil_append, bq_]
 refine .seq (.rgn [] (by simp only [go_sem, seval]; rfl) ?_ ?_)
 ·first | trivial | simp
 refine .seq (.rgn [a5_ (og_ (s.getD k 0))] (by simp only [go_sem, seval]; rfl) ?_ ?_)
 ·exact ⟨by omega, by omega⟩
 refine .seq (.rgn [] (by simp only [go_sem, seval]; rfl) ?_ ?_)
 ·first | trivial | simp
 refine .seq (.block (.loopK (fun j : Nat => ⟨[.s s, .no, .no, .no, .no, .i .i64 (cm_ (s.getD k 0)), .i .i64 j, .no, .no, .no, .no, .no, .no, .no, .no, .no, .no, .no, .no, .no, .no, .no, .no, .no, .no, .no, .no, .no, .no, .no, .no, .no], a6_ [], us []⟩) (fun j : Nat => k + 1 ≤ j ∧ j ≤ s.length ∧ k + 1 + exC (s.getD k 0) (s.drop (k + 1)) = j + exC (s.getD k 0) (s.drop j)) (fun j : Nat => s.length - j) (k + 1) ?_ ?_ (fun j hI => ?_)))
 ·exact ⟨Nat.le_refl _, hk, rfl⟩
 ·exact Can.weak (Weak.lit (by simp only [go_sem, seval, aw_, leV, at_, au_, V.inn, us, true_or, or_true] <;> (rw [a7_ (by omega) (by omega)]; simp)) (by simp only [go_sem, seval, aw_, leV, at_, au_, V.inn, us, true_or, or_true]) (by simp only [go_sem, seval, aw_, leV, at_, au_, V.inn, us, true_or, or_true]))
 refine .seq (.seq (.rgn [dg_ (j < s.length) (fun _ => og_ (s.getD j 0))] (by simp only [go_sem, seval]; rfl) ?_ ?_))
 ·exact ⟨fun h => ⟨h, by omega, by rw [Bool.and_eq_true] at h; exact of_decide_eq_true h.1⟩, fun h => ⟨h, by rw [Bool.and_eq_true] at h; have h0 := of_decide_eq_true h.1; omega⟩⟩
 refine .condB (by simp only [go_sem, seval]; rfl) (by simp only [go_sem, seval]) (fun h28 => ?_) (fun h28 => ?_)
 ·refine .skip (.block (.rgn [] (by simp only [go_sem, seval]; rfl) ?_ ?_))
  ·first | trivial | simp
  refine Exists.intro (j + 1) ⟨?_, ?_, ?_⟩
  ·rw [Bool.and_eq_true, Bool.and_eq_true] at h28; have a := of_decide_eq_true h28.1.1; have b := of_decide_eq_true h28.1.2; have c := beq_iff_eq.1 h28.2; have e := aea_ (show j < s.length by omega) b c; exact ⟨by omega, by omega, by omega⟩
  ·rw [Bool.and_eq_true, Bool.and_eq_true] at h28; have a := of_decide_eq_true h28.1.1; omega
  exact Can.weak (Weak.lit (by simp only [go_sem, seval, aw_, leV, at_, au_, V.inn, us, true_or, or_true] <;> (rw [a7_ (by omega) (by omega)]; simp)) (by simp only [go_sem, seval, aw_, leV, at_, au_, V.inn, us, true_or, or_true]) (by simp only [go_sem, seval, aw_, leV, at_, au_, V.inn, us, true_or, or_true]))
 ·refine .exit (.seq (.rgn [] (by simp only [go_sem, seval]; rfl) ?_ ?_))
  ·first | trivial | simp
  refine .ret ⟨.inr rfl, ?_⟩
  exact Out.plain (by simp only [Tryz.results150]; rfl) (by simp only [a1_, bc_, go_sem, seval] <;> (split <;> rfl)) (by simp only [ba_, go_sem, seval] <;> ((have e := yj_ (c := s.getD k 0) (s := s) (j := j) (fun q => by rw [decide_eq_true (show (j : Int) < s.length by omega), decide_eq_true q.2.1, q.2.2] at h28; simp at h28)); rw [hE, show k + (1 + exC (s.getD k 0) (s.drop (k + 1))) = j by omega])) (by simp only [go_sem, seval])
theorem v1_ (s : Str) : (((s.length : Int) == 1) && decide (Lib.indexByte marks (s.getD 0 0) ≥ 0)) = dr_ s := by
 unfold dr_
 rw [show decide (Lib.indexByte marks (s.getD 0 0) ≥ 0) = marks.contains (s.getD 0 0) from gt_ marks _]
 congr 1
 ·rw [Bool.eq_iff_iff]; simp; omega
 ·cases s <;> rfl
def h8_ (k : Int) (s : Str) : Bool := if k = 1 then dq_ s else if k = 2 then de_ s else if k = 3 then dr_ s else false
theorem w2_ (k : Int) (s : Str) (hs : s.length ≤ 281474976710656) : ACall En 196 [.i .i64 k, .s s] [] [.b (h8_ k s)] [] := by
 refine ap_ (fn := Tryz.f196) [] Tryz.func196 rfl rfl (by simp) fun C => ?_
 rw [a0_]
 simp only [Tryz.ntmps196, List.length_cons, List.length_nil, Nat.reduceAdd, Nat.reduceSub, List.replicate_succ, List.replicate_zero, List.cons_append, List.nil_append, bq_]
 refine .seq (.rgn [] (by simp only [go_sem, seval]; rfl) ?_ ?_)
 ·first | trivial | simp
 refine .seq (.seq (.rgn [] (by simp only [go_sem, seval]; rfl) ?_ ?_))
 ·first | trivial | simp
 refine .block (.seq (.rgn [] (by simp only [go_sem, seval]; rfl) ?_ ?_))
 ·first | trivial | simp
 refine .condB (by simp only [go_sem, seval]; rfl) (by simp only [go_sem, seval]) (fun h6 => ?_) (fun h6 => ?_)
 ·refine .seq (.rgn [a5_ (rw_ s (by omega))] (by simp only [go_sem, seval]; rfl) ?_ ?_)
  ·first | trivial | simp
  refine .ret ⟨.inr rfl, ?_⟩
  exact Out.plain (by simp only [Tryz.results196]; rfl) (by simp only [a1_, bc_, go_sem, seval] <;> (split <;> rfl)) (by simp only [ba_, go_sem, seval] <;> (simp at h6; simp [h8_, h6])) (by simp only [go_sem, seval])
 ·refine .seq (.rgn [] (by simp only [go_sem, seval]; rfl) ?_ ?_)
  ·first | trivial | simp
  refine .condB (by simp only [go_sem, seval]; rfl) (by simp only [go_sem, seval]) (fun h10 => ?_) (fun h10 => ?_)
  ·refine .seq (.rgn [a5_ (aco_ s hs)] (by simp only [go_sem, seval]; rfl) ?_ ?_)
   ·first | trivial | simp
   refine .ret ⟨.inr rfl, ?_⟩
   exact Out.plain (by simp only [Tryz.results196]; rfl) (by simp only [a1_, bc_, go_sem, seval] <;> (split <;> rfl)) (by simp only [ba_, go_sem, seval] <;> (simp at h6 h10; simp [h8_, h10])) (by simp only [go_sem, seval])
  ·refine .seq (.rgn [] (by simp only [go_sem, seval]; rfl) ?_ ?_)
   ·first | trivial | simp
   refine .condB (by simp only [go_sem, seval]; rfl) (by simp only [go_sem, seval]) (fun h14 => ?_) (fun h14 => ?_)
   ·refine .seq (.rgnD [a5_ oh_, dg_ (0 < s.length) (fun _ => nm_ marks (s.getD 0 0) (by decide))] enM (by simp only [go_sem, seval]; rfl) (by rfl) ?_ ?_)
    ·exact ⟨fun h => ⟨h, by have := beq_iff_eq.1 h; omega⟩, fun h => ⟨h, by have := beq_iff_eq.1 h; omega⟩⟩
    refine .ret ⟨.inr rfl, ?_⟩
    exact Out.plain (by simp only [Tryz.results196]; rfl) (by simp only [a1_, bc_, go_sem, seval] <;> (split <;> rfl)) (by simp only [ba_, go_sem, seval] <;> (simp at h6 h10 h14; simp [h8_, h14]; rw [← v1_]; simp)) (by simp only [go_sem, seval])
   ·refine .skip (.seq (.rgn [] (by simp only [go_sem, seval]; rfl) ?_ ?_))
    ·first | trivial | simp
    refine .ret ⟨.inr rfl, ?_⟩
    exact Out.plain (by simp only [Tryz.results196]; rfl) (by simp only [a1_, bc_, go_sem, seval] <;> (split <;> rfl)) (by simp only [ba_, go_sem, seval] <;> (simp at h6 h10 h14; simp [h8_, h6, h10, h14])) (by simp only [go_sem, seval])
theorem tm_ (s : Str) (hs : s.length ≤ 281474976710656) : ACall En 151 [.s s] [] [.i .i64 (ck_ s)] [] := by
 refine ap_ (fn := Tryz.f151) [] Tryz.func151 rfl rfl (by simp) fun C => ?_
 rw [a0_]
 simp only [Tryz.ntmps151, List.length_cons, List.length_nil, Nat.reduceAdd, Nat.reduceSub, List.replicate_succ, List.replicate_zero, List.cons_append, List.nil_append, bq_]
 refine .seq (.rgn [] (by simp only [go_sem, seval]; rfl) ?_ ?_)
 ·first | trivial | simp
 refine .seq (.seq (.rgn [] (by simp only [go_sem, seval]; rfl) ?_ ?_))
 ·first | trivial | simp
 refine .block (.loopK (fun k : Nat => ⟨[.s s, .no, .no, .i .i64 k, .no, .no, .no, .no, .no, .no, .no, .no], a6_ [], us []⟩) (fun k : Nat => 1 ≤ k ∧ k ≤ 4 ∧ (2 ≤ k → dq_ s = false) ∧ (3 ≤ k → de_ s = false) ∧ (4 ≤ k → dr_ s = false)) (fun k : Nat => 4 - k) (1) ?_ ?_ (fun k hI => ?_))
 ·exact ⟨by decide, by decide, fun h => by omega, fun h => by omega, fun h => by omega⟩
 ·exact Can.weak (Weak.lit (by simp only [go_sem, seval, aw_, leV, at_, au_, V.inn, us, true_or, or_true] <;> (rfl)) (by simp only [go_sem, seval, aw_, leV, at_, au_, V.inn, us, true_or, or_true]) (by simp only [go_sem, seval, aw_, leV, at_, au_, V.inn, us, true_or, or_true]))
 refine .seq (.seq (.rgn [] (by simp only [go_sem, seval]; rfl) ?_ ?_))
 ·first | trivial | simp
 refine .condB (by simp only [go_sem, seval]; rfl) (by simp only [go_sem, seval]) (fun h5 => ?_) (fun h5 => ?_)
 ·refine .skip (.seq (.block (.seq (.rgn [a5_ (w2_ k s hs)] (by simp only [go_sem, seval]; rfl) ?_ ?_))))
  ·first | trivial | simp
  refine .condB (by simp only [go_sem, seval]; rfl) (by simp only [go_sem, seval]) (fun h10 => ?_) (fun h10 => ?_)
  ·refine .seq (.rgn [] (by simp only [go_sem, seval]; rfl) ?_ ?_)
   ·first | trivial | simp
   refine .ret ⟨.inr rfl, ?_⟩
   exact Out.plain (by simp only [Tryz.results151]; rfl) (by simp only [a1_, bc_, go_sem, seval] <;> (split <;> rfl)) (by simp only [ba_, go_sem, seval] <;> (simp only [decide_eq_true_eq] at h5; unfold ck_; rcases (show k = 1 ∨ k = 2 ∨ k = 3 by omega) with e | e | e <;> subst e <;> simp [h8_] at h10; (simp [h10]); (simp [h10, hI.2.2.1 (by omega)]); (simp [h10, hI.2.2.1 (by omega), hI.2.2.2.1 (by omega)]))) (by simp only [go_sem, seval])
  ·refine .skip (.rgn [] (by simp only [go_sem, seval]; rfl) ?_ ?_)
   ·first | trivial | simp
   refine Exists.intro (k + 1) ⟨?_, ?_, ?_⟩
   ·simp only [decide_eq_true_eq] at h5; rcases (show k = 1 ∨ k = 2 ∨ k = 3 by omega) with e | e | e <;> subst e <;> simp [h8_] at h10; exact ⟨by omega, by omega, fun _ => h10, fun h => by omega, fun h => by omega⟩; exact ⟨by omega, by omega, fun _ => hI.2.2.1 (by omega), fun _ => h10, fun h => by omega⟩; exact ⟨by omega, by omega, fun _ => hI.2.2.1 (by omega), fun _ => hI.2.2.2.1 (by omega), fun _ => h10⟩
   ·simp at h5; omega
   exact Can.weak (Weak.lit (by simp only [go_sem, seval, aw_, leV, at_, au_, V.inn, us, true_or, or_true] <;> (rw [a7_ (by omega) (by omega)]; simp)) (by simp only [go_sem, seval, aw_, leV, at_, au_, V.inn, us, true_or, or_true]) (by simp only [go_sem, seval, aw_, leV, at_, au_, V.inn, us, true_or, or_true]))
 ·refine .exit (.seq (.rgn [] (by simp only [go_sem, seval]; rfl) ?_ ?_))
  ·first | trivial | simp
  refine .ret ⟨.inr rfl, ?_⟩
  exact Out.plain (by simp only [Tryz.results151]; rfl) (by simp only [a1_, bc_, go_sem, seval] <;> (split <;> rfl)) (by simp only [ba_, go_sem, seval] <;> (simp only [decide_eq_false_iff_not] at h5; unfold ck_; simp [hI.2.2.1 (by omega), hI.2.2.2.1 (by omega), hI.2.2.2.2 (by omega)])) (by simp only [go_sem, seval])
theorem r1_ {c : UInt8} : (cm_ c == 1) = cf_ c := by
 unfold cm_
 cases h : cf_ c with
 | true => rfl
 | false => simp only [Bool.false_eq_true, if_false]; split <;> (try split) <;> (try split) <;> rfl
theorem ra_ {c : UInt8} : (cm_ c == 2) = b7_ c := by
 unfold cm_
 cases h : cf_ c with
 | true => rw [e2_ h]; rfl
 | false =>
  simp only [Bool.false_eq_true, if_false]
  cases b7_ c with
  | true => rfl
  | false => simp only [Bool.false_eq_true, if_false]; split <;> (try split) <;> rfl
theorem yb_ {c : UInt8} {l : Str} (h : cm_ c ≠ 0) (h4 : c ≠ 32) : cn_ (c :: l) = c5_ (c :: l) := by
 show 1 + (if cm_ c < 3 then (l.takeWhile fun x => cm_ x == cm_ c).length else 0) = max 1 (max ((c :: l).takeWhile cf_).length ((c :: l).takeWhile b7_).length)
 cases hl : cf_ c with
 | true =>
  have e : cm_ c = 1 := by unfold cm_; rw [if_pos hl]
  rw [e, if_pos (by decide), h4_ (e2_ hl), List.takeWhile_cons, if_pos hl]
  have : (fun x => cm_ x == 1) = cf_ := funext fun x => r1_
  rw [this]; simp; omega
 | false =>
  rw [h4_ (p := cf_) hl]
  cases hd : b7_ c with
  | true =>
   have e : cm_ c = 2 := by unfold cm_; rw [if_neg (by simp [hl]), if_pos hd]
   rw [e, if_pos (by decide), List.takeWhile_cons, if_pos hd]
   have : (fun x => cm_ x == 2) = b7_ := funext fun x => ra_
   rw [this]; simp; omega
  | false =>
   rw [h4_ hd]
   have e : ¬ cm_ c < 3 := by
    unfold cm_ at h ⊢
    rw [if_neg (by simp [hl]), if_neg (by simp [hd])] at h ⊢
    split
    ·decide
    ·rename_i hm; rw [if_neg hm, if_neg h4] at h; exact absurd rfl h
   rw [if_neg e]; rfl
theorem va_ {c : UInt8} {l : Str} (h : cm_ c = 0) : ck_ (c :: l) = 0 := by
 unfold cm_ at h
 have hl : cf_ c = false := by
  cases q : cf_ c with
  | true => rw [q] at h; simp at h
  | false => rfl
 have hd : b7_ c = false := by
  cases q : b7_ c with
  | true => rw [hl, q] at h; simp at h
  | false => rfl
 have hm : marks.contains c = false := by
  cases q : marks.contains c with
  | true => rw [hl, hd, q] at h; simp at h
  | false => rfl
 unfold ck_
 rw [if_neg, if_neg, if_neg]
 ·intro q; simp only [dr_, Bool.and_eq_true, List.headD_cons] at q; rw [hm] at q; exact absurd q.2 (by decide)
 ·intro q
  obtain ⟨n, _, e⟩ := da_.1 q
  have := (hs_ c).2 (db_ n c (by rw [← e]; simp))
  rw [hd] at this; cases this
 ·intro q; simp [dq_, hl] at q
theorem l7_ {l : Str} {k : Nat} (h : k < l.length) (col : Int) : e3_ (l.drop k).length (l.drop k) col =
  if l.getD k 0 = 32 then e3_ (l.drop (k + cn_ (l.drop k))).length (l.drop (k + cn_ (l.drop k))) (col + cn_ (l.drop k))
  else if ck_ ((l.drop k).take (cn_ (l.drop k))) = 0 then none
  else (e3_ (l.drop (k + cn_ (l.drop k))).length (l.drop (k + cn_ (l.drop k))) (col + cn_ (l.drop k))).map (⟨ck_ ((l.drop k).take (cn_ (l.drop k))), (l.drop k).take (cn_ (l.drop k)), col⟩ :: ·) := by
 rw [kx_ h]
 have hd := ic_ h
 by_cases h32 : l.getD k 0 = 32
 ·have e : cn_ (l.drop k) = 1 := by
   rw [hd, cn_, h32]; rfl
  rw [if_pos h32, if_pos h32, e]; rfl
 ·rw [if_neg h32, if_neg h32]
  by_cases h0 : cm_ (l.getD k 0) = 0
  ·have p : ∀ m, 1 ≤ m → ck_ ((l.drop k).take m) = 0 := fun m hm => by
    rw [hd]
    obtain ⟨m', rfl⟩ : ∃ m', m = m' + 1 := ⟨m - 1, by omega⟩
    rw [List.take_succ_cons]; exact va_ h0
   rw [if_pos (p _ (v6_ h).1), if_pos (p _ (dj_ h).1)]
  ·have e : cn_ (l.drop k) = c5_ (l.drop k) := by rw [hd]; exact yb_ h0 h32
   rw [e]
theorem tc_ (s : Str) (hs : s.length ≤ 281474976710656) : ACall En 96 [.s s] [] [.sl false (tkR ((ci_ s).getD [])), .b (ci_ s).isSome] [] := by
 refine ap_ (fn := Tryz.f96) [] Tryz.func96 rfl rfl (by simp) fun C => ?_
 rw [a0_]
 simp only [Tryz.ntmps96, List.length_cons, List.length_nil, Nat.reduceAdd, Nat.reduceSub, List.replicate_succ, List.replicate_zero, List.cons_append, List.nil_append, bq_]
 refine .seq (.rgn [] (by simp only [go_sem, seval, aj_, ao_]; rfl) ?_ ?_)
 ·(first | trivial | (simp; done) | (simp only [decide_eq_true_eq] at h16; have he := dj_ (show q.1 < s.length by omega); first | exact ⟨by omega, hI.2.1⟩ | exact ⟨by omega, by omega⟩ | (refine ⟨by omega, by omega, by omega, by omega, by simp⟩) | (refine ⟨⟨⟨by omega, by omega, by omega, by omega, by simp⟩, rfl⟩, ?_⟩; simp; omega)))
 refine .seq (.rgn [] (by simp only [go_sem, seval, aj_, ao_]; rfl) ?_ ?_)
 ·(first | trivial | (simp; done) | (simp only [decide_eq_true_eq] at h16; have he := dj_ (show q.1 < s.length by omega); first | exact ⟨by omega, hI.2.1⟩ | exact ⟨by omega, by omega⟩ | (refine ⟨by omega, by omega, by omega, by omega, by simp⟩) | (refine ⟨⟨⟨by omega, by omega, by omega, by omega, by simp⟩, rfl⟩, ?_⟩; simp; omega)))
 refine .seq (.seq (.rgn [] (by simp only [go_sem, seval, aj_, ao_]; rfl) ?_ ?_))
 ·(first | trivial | (simp; done) | (simp only [decide_eq_true_eq] at h16; have he := dj_ (show q.1 < s.length by omega); first | exact ⟨by omega, hI.2.1⟩ | exact ⟨by omega, by omega⟩ | (refine ⟨by omega, by omega, by omega, by omega, by simp⟩) | (refine ⟨⟨⟨by omega, by omega, by omega, by omega, by simp⟩, rfl⟩, ?_⟩; simp; omega)))
 refine .condB (by simp only [go_sem, seval, aj_, ao_]; rfl) (by simp only [go_sem, seval, aj_, ao_]) (fun h11 => ?_) (fun h11 => ?_)
 ·refine .seq (.rgn [] (by simp only [go_sem, seval, aj_, ao_]; rfl) ?_ ?_)
  ·(first | trivial | (simp; done) | (simp only [decide_eq_true_eq] at h16; have he := dj_ (show q.1 < s.length by omega); first | exact ⟨by omega, hI.2.1⟩ | exact ⟨by omega, by omega⟩ | (refine ⟨by omega, by omega, by omega, by omega, by simp⟩) | (refine ⟨⟨⟨by omega, by omega, by omega, by omega, by simp⟩, rfl⟩, ?_⟩; simp; omega)))
  refine .ret ⟨.inr rfl, ?_⟩
  exact Out.plainL (by simp only [Tryz.results96]; rfl) (by simp only [a1_, bc_, go_sem, seval, aj_, ao_] <;> (split <;> rfl)) (by simp only [ba_, go_sem, seval, aj_, ao_] <;> (simp only [decide_eq_true_eq] at h11; rw [iy_ (by omega)]; simp [tkR, ler])) (by simp only [go_sem, seval, aj_, ao_])
 ·refine .skip (.seq (.rgn [] (by simp only [go_sem, seval, aj_, ao_]; rfl) ?_ ?_))
  ·(first | trivial | (simp; done) | (simp only [decide_eq_true_eq] at h16; have he := dj_ (show q.1 < s.length by omega); first | exact ⟨by omega, hI.2.1⟩ | exact ⟨by omega, by omega⟩ | (refine ⟨by omega, by omega, by omega, by omega, by simp⟩) | (refine ⟨⟨⟨by omega, by omega, by omega, by omega, by simp⟩, rfl⟩, ?_⟩; simp; omega)))
  refine .seq (.block (.loopK (fun q : Nat × List Tk => ⟨[.s s, .no, .no, .no, .ow 60 3 0 q.2.length, .i .i64 q.1, .no, .no, .no, .no, .no, .no, .no, .no, .no, .no, .no, .no, .no, .no, .no, .no, .no, .no, .no, .no, .no, .no, .no, .no, .no, .no, .no, .no, .no, .no, .no, .no, .no, .no, .no, .no, .no, .no], a6_ [(60, ⟨40, 3, tkR q.2⟩)], us [60]⟩) (fun q : Nat × List Tk => q.1 ≤ s.length ∧ s.length ≤ 120 ∧ q.2.length ≤ q.1 ∧ e3_ s.length s 0 = (e3_ (s.drop q.1).length (s.drop q.1) q.1).map (q.2 ++ ·)) (fun q : Nat × List Tk => s.length - q.1) ((0, [])) ?_ ?_ (fun q hI => ?_)))
  ·simp at h11; simp; omega
  ·refine Can.trans (Can.ownSlot 4 60 40 3 (by simp only [go_sem, seval, aj_, ao_] <;> rfl) (by simp only [go_sem, seval, aj_, ao_]) (by simp only [go_sem, seval, aj_, ao_] <;> rfl)) ?_
   exact Can.weak (Weak.lit (by simp only [go_sem, seval, aj_, ao_, aw_, leV, at_, au_, V.inn, us, true_or, or_true] <;> ((try simp))) (by simp only [go_sem, seval, aj_, ao_, aw_, leV, at_, au_, V.inn, us, true_or, or_true]) (by simp only [go_sem, seval, aj_, ao_, aw_, leV, at_, au_, V.inn, us, true_or, or_true] <;> (simp [tkR])))
  refine .seq (.seq (.rgn [] (by simp only [go_sem, seval, aj_, ao_]; rfl) ?_ ?_))
  ·(first | trivial | (simp; done) | (simp only [decide_eq_true_eq] at h16; have he := dj_ (show q.1 < s.length by omega); first | exact ⟨by omega, hI.2.1⟩ | exact ⟨by omega, by omega⟩ | (refine ⟨by omega, by omega, by omega, by omega, by simp⟩) | (refine ⟨⟨⟨by omega, by omega, by omega, by omega, by simp⟩, rfl⟩, ?_⟩; simp; omega)))
  refine .condB (by simp only [go_sem, seval, aj_, ao_]; rfl) (by simp only [go_sem, seval, aj_, ao_]) (fun h16 => ?_) (fun h16 => ?_)
  ·refine .skip (.block (.seq (.rgn [dg_ (q.1 < s.length ∧ s.length ≤ 120) (fun h => ab1_ s q.1 h.1 (by omega))] (by simp only [go_sem, seval, aj_, ao_]; rfl) ?_ ?_)))
   ·(first | trivial | (simp; done) | (simp only [decide_eq_true_eq] at h16; have he := dj_ (show q.1 < s.length by omega); first | exact ⟨by omega, hI.2.1⟩ | exact ⟨by omega, by omega⟩ | (refine ⟨by omega, by omega, by omega, by omega, by simp⟩) | (refine ⟨⟨⟨by omega, by omega, by omega, by omega, by simp⟩, rfl⟩, ?_⟩; simp; omega)))
   refine .seqJ (fun p : List Tk => ⟨[.s s, .no, .no, .no, .ow 60 3 0 p.length, .no, .i .i64 ((q.1 + cn_ (s.drop q.1) : Nat) : Int), .no, .no, .no, .no, .no, .no, .no, .no, .no, .no, .no, .no, .no, .no, .no, .no, .no, .no, .no, .no, .no, .no, .no, .no, .no, .no, .no, .no, .no, .no, .no, .no, .no, .no, .no, .no, .no], a6_ [(60, ⟨40, 3, tkR p⟩)], us [60]⟩) (fun p : List Tk => p.length ≤ q.1 + 1 ∧ e3_ s.length s 0 = (e3_ (s.drop (q.1 + cn_ (s.drop q.1))).length (s.drop (q.1 + cn_ (s.drop q.1))) ((q.1 + cn_ (s.drop q.1) : Nat) : Int)).map (p ++ ·)) ?_ (fun p hJ => ?_)
   ·refine .seq (.rgn [] (by simp only [go_sem, seval, aj_, ao_]; rfl) ?_ ?_)
    ·(first | trivial | (simp; done) | (simp only [decide_eq_true_eq] at h16; have he := dj_ (show q.1 < s.length by omega); first | exact ⟨by omega, hI.2.1⟩ | exact ⟨by omega, by omega⟩ | (refine ⟨by omega, by omega, by omega, by omega, by simp⟩) | (refine ⟨⟨⟨by omega, by omega, by omega, by omega, by simp⟩, rfl⟩, ?_⟩; simp; omega)))
    refine .condB (by simp only [go_sem, seval, aj_, ao_]; rfl) (by simp only [go_sem, seval, aj_, ao_]) (fun h23 => ?_) (fun h23 => ?_)
    ·refine .seq (.rgn [a5_ (tm_ ((s.drop q.1).take (cn_ (s.drop q.1))) (by simp; omega))] (by simp only [go_sem, seval, aj_, ao_, l4_]; rfl) ?_ ?_)
     ·(first | trivial | (simp; done) | (simp only [decide_eq_true_eq] at h16; have he := dj_ (show q.1 < s.length by omega); first | exact ⟨by omega, hI.2.1⟩ | exact ⟨by omega, by omega⟩ | (refine ⟨by omega, by omega, by omega, by omega, by simp⟩) | (refine ⟨⟨⟨by omega, by omega, by omega, by omega, by simp⟩, rfl⟩, ?_⟩; simp; omega)))
     refine .seq (.seq (.rgn [] (by simp only [go_sem, seval, aj_, ao_]; rfl) ?_ ?_))
     ·(first | trivial | (simp; done) | (simp only [decide_eq_true_eq] at h16; have he := dj_ (show q.1 < s.length by omega); first | exact ⟨by omega, hI.2.1⟩ | exact ⟨by omega, by omega⟩ | (refine ⟨by omega, by omega, by omega, by omega, by simp⟩) | (refine ⟨⟨⟨by omega, by omega, by omega, by omega, by simp⟩, rfl⟩, ?_⟩; simp; omega)))
     refine .condB (by simp only [go_sem, seval, aj_, ao_]; rfl) (by simp only [go_sem, seval, aj_, ao_]) (fun h30 => ?_) (fun h30 => ?_)
     ·refine .seq (.rgn [] (by simp only [go_sem, seval, aj_, ao_]; rfl) ?_ ?_)
      ·(first | trivial | (simp; done) | (simp only [decide_eq_true_eq] at h16; have he := dj_ (show q.1 < s.length by omega); first | exact ⟨by omega, hI.2.1⟩ | exact ⟨by omega, by omega⟩ | (refine ⟨by omega, by omega, by omega, by omega, by simp⟩) | (refine ⟨⟨⟨by omega, by omega, by omega, by omega, by simp⟩, rfl⟩, ?_⟩; simp; omega)))
      refine .ret ⟨.inr rfl, ?_⟩
      exact Out.plainL (by simp only [Tryz.results96]; rfl) (by simp only [a1_, bc_, go_sem, seval, aj_, ao_] <;> (split <;> rfl)) (by simp only [ba_, go_sem, seval, aj_, ao_] <;> (simp only [decide_eq_true_eq] at h16; have e := l7_ (show q.1 < s.length by omega) q.1; rw [if_neg (fun h => by have := (fu_ (by omega)).1 h; rw [this] at h23; simp at h23), if_pos (by simpa using h30)] at e; rw [fa_ hI.2.1, hI.2.2.2, e]; simp [tkR, ler])) (by simp only [go_sem, seval, aj_, ao_])
     ·refine .skip (.rgn [] (by simp only [go_sem, seval, aj_, ao_, l4_]; rfl) ?_ ?_)
      ·(first | trivial | (simp; done) | (simp only [decide_eq_true_eq] at h16; have he := dj_ (show q.1 < s.length by omega); first | exact ⟨by omega, hI.2.1⟩ | exact ⟨by omega, by omega⟩ | (refine ⟨by omega, by omega, by omega, by omega, by simp⟩) | (refine ⟨⟨⟨by omega, by omega, by omega, by omega, by simp⟩, rfl⟩, ?_⟩; simp; omega)))
      refine Exists.intro (q.2 ++ [⟨ck_ ((s.drop q.1).take (cn_ (s.drop q.1))), (s.drop q.1).take (cn_ (s.drop q.1)), q.1⟩]) ⟨?_, ?_⟩
      ·simp only [decide_eq_true_eq] at h16; obtain ⟨i1, i2, i3, i4⟩ := hI; have e := l7_ (show q.1 < s.length by omega) q.1; first | (rw [if_neg (fun h => by have := (fu_ (by omega)).1 h; rw [this] at h23; simp at h23), if_neg (by simpa using h30)] at e; exact ⟨by simp only [List.length_append, List.length_singleton]; omega, by rw [i4, e, Option.map_map]; simp [Function.comp_def]⟩) | (rw [if_pos ((fu_ (by omega)).2 (by simpa using h23))] at e; exact ⟨by omega, by rw [i4, e]; rfl⟩)
      refine Can.trans (Can.swap 51 60 (by decide) (by decide) (by decide) (by decide) (by simp only [go_sem, seval, aj_, ao_, V.cl]) (by simp only [go_sem, seval, aj_, ao_, V.cl]) (by simp only [go_sem, seval, aj_, ao_, be_, sw, swM, rnB] <;> rfl) (by simp only [go_sem, seval, aj_, ao_, be_, sw, swM, rnB] <;> rfl) (by simp only [go_sem, seval, aj_, ao_, be_, sw, swM, rnB] <;> rfl)) ?_
      exact Can.weak (Weak.lit (by simp only [go_sem, seval, aj_, ao_, aw_, leV, at_, au_, V.inn, us, true_or, or_true] <;> ((try simp))) (by simp only [go_sem, seval, aj_, ao_, aw_, leV, at_, au_, V.inn, us, true_or, or_true]) (by simp only [go_sem, seval, aj_, ao_, aw_, leV, at_, au_, V.inn, us, true_or, or_true] <;> ((try simp [ld_]))))
    ·refine .skip ?_
     refine Exists.intro (q.2) ⟨?_, ?_⟩
     ·simp only [decide_eq_true_eq] at h16; obtain ⟨i1, i2, i3, i4⟩ := hI; have e := l7_ (show q.1 < s.length by omega) q.1; first | (rw [if_neg (fun h => by have := (fu_ (by omega)).1 h; rw [this] at h23; simp at h23), if_neg (by simpa using h30)] at e; exact ⟨by simp only [List.length_append, List.length_singleton]; omega, by rw [i4, e, Option.map_map]; simp [Function.comp_def]⟩) | (rw [if_pos ((fu_ (by omega)).2 (by simpa using h23))] at e; exact ⟨by omega, by rw [i4, e]; rfl⟩)
     exact Can.weak (Weak.lit (by simp only [go_sem, seval, aj_, ao_, aw_, leV, at_, au_, V.inn, us, true_or, or_true] <;> ((try simp))) (by simp only [go_sem, seval, aj_, ao_, aw_, leV, at_, au_, V.inn, us, true_or, or_true]) (by simp only [go_sem, seval, aj_, ao_, aw_, leV, at_, au_, V.inn, us, true_or, or_true] <;> ((try simp [ld_]))))
   refine .rgn [] (by simp only [go_sem, seval, aj_, ao_]; rfl) ?_ ?_
   ·(first | trivial | (simp; done) | (simp only [decide_eq_true_eq] at h16; have he := dj_ (show q.1 < s.length by omega); first | exact ⟨by omega, hI.2.1⟩ | exact ⟨by omega, by omega⟩ | (refine ⟨by omega, by omega, by omega, by omega, by simp⟩) | (refine ⟨⟨⟨by omega, by omega, by omega, by omega, by simp⟩, rfl⟩, ?_⟩; simp; omega)))
   refine Exists.intro ((q.1 + cn_ (s.drop q.1), p)) ⟨?_, ?_, ?_⟩
   ·simp only [decide_eq_true_eq] at h16; have he := dj_ (show q.1 < s.length by omega); exact ⟨by dsimp only; omega, hI.2.1, by dsimp only; have := hJ.1; omega, hJ.2⟩
   ·simp only [decide_eq_true_eq] at h16; have := dj_ (show q.1 < s.length by omega); dsimp only; omega
   exact Can.weak (Weak.lit (by simp only [go_sem, seval, aj_, ao_, aw_, leV, at_, au_, V.inn, us, true_or, or_true] <;> ((try simp))) (by simp only [go_sem, seval, aj_, ao_, aw_, leV, at_, au_, V.inn, us, true_or, or_true]) (by simp only [go_sem, seval, aj_, ao_, aw_, leV, at_, au_, V.inn, us, true_or, or_true] <;> ((try simp))))
  ·refine .exit (.seq (.rgn [] (by simp only [go_sem, seval, aj_, ao_]; rfl) ?_ ?_))
   ·(first | trivial | (simp; done) | (simp only [decide_eq_true_eq] at h16; have he := dj_ (show q.1 < s.length by omega); first | exact ⟨by omega, hI.2.1⟩ | exact ⟨by omega, by omega⟩ | (refine ⟨by omega, by omega, by omega, by omega, by simp⟩) | (refine ⟨⟨⟨by omega, by omega, by omega, by omega, by simp⟩, rfl⟩, ?_⟩; simp; omega)))
   refine .frz 60 (by simp only [go_sem, seval, aj_, ao_]; rfl) (by simp only [go_sem, seval, aj_, ao_]) (by simp only [go_sem, seval, aj_, ao_]; rfl) (by simp only [go_sem, seval, aj_, ao_]; rfl) ?_
   refine .ret ⟨.inr rfl, ?_⟩
   exact Out.plainL (by simp only [Tryz.results96]; rfl) (by simp only [a1_, bc_, go_sem, seval, aj_, ao_] <;> (split <;> rfl)) (by simp only [ba_, go_sem, seval, aj_, ao_] <;> (simp only [decide_eq_false_iff_not] at h16; rw [fa_ hI.2.1, hI.2.2.2, n1_ (by omega)]; simp [List.take_of_length_le, ao_, leV, bo_])) (by simp only [go_sem, seval, aj_, ao_])
end
section
set_option maxRecDepth 100000
set_option maxHeartbeats 4000000
theorem xx_ : s1_ En.P 36 2 := by
 refine ⟨by kernel_rfl, fun w xs ys hx hy => ?_⟩
 match xs, ys, hx, hy with
 | [a, b], [c, d], _, _ =>
  have u3 := Tryz.underlying3
  have a3 := Tryz.isAgg3
  have z3 := Tryz.sizeOf3
  have hS : Tryz.prog.underlying 36 = some (.struct (Tryz.prog.fieldsOf 36)) := by kernel_rfl
  have hp : Tryz.prog.stoodInHeld 36 = false := by kernel_rfl
  show (Op.equalIn 10000 36 _ _).run Tryz.prog w = _
  rw [show (10000 : Nat) = 9999 + 1 from rfl, run_equalIn_agg w 9999 36 _ _ hS hp]
  simp only [Program.fieldsOf, Tryz.underlying36]
  go_simp
  by_cases h1 : a = c <;> by_cases h2 : b = d <;> simp [h1, h2]
theorem zu_ (d : Nat) (w : World) (a b c e : Int) : (Op.equalIn (d + 1 + 1) 36 (.agg #[.int .i64 a, .int .i64 b]) (.agg #[.int .i64 c, .int .i64 e])).run Tryz.prog w = .ok (decide (a = c) && decide (b = e)) w := by
 have u3 := Tryz.underlying3
 have a3 := Tryz.isAgg3
 have z3 := Tryz.sizeOf3
 have hS : Tryz.prog.underlying 36 = some (.struct (Tryz.prog.fieldsOf 36)) := by kernel_rfl
 have hp : Tryz.prog.stoodInHeld 36 = false := by kernel_rfl
 rw [run_equalIn_agg w (d + 1) 36 _ _ hS hp]
 simp only [Program.fieldsOf, Tryz.underlying36]
 go_simp
 by_cases h1 : a = c <;> by_cases h2 : b = e <;> simp [h1, h2]
theorem age_ : s1_ En.P 38 4 := by
 refine ⟨by kernel_rfl, fun w xs ys hx hy => ?_⟩
 match xs, ys, hx, hy with
 | [a, b, a', b'], [c, d, c', d'], _, _ =>
  have a4 := Tryz.isAgg36
  have z4 := Tryz.sizeOf36
  have hS : Tryz.prog.underlying 38 = some (.struct (Tryz.prog.fieldsOf 38)) := by kernel_rfl
  have hp : Tryz.prog.stoodInHeld 38 = false := by kernel_rfl
  have p0 : ∀ p q r s : Int, (part 36 #[.int .i64 p, .int .i64 q, .int .i64 r, .int .i64 s] 0).run Tryz.prog w = .ok (.agg #[.int .i64 p, .int .i64 q]) w := fun p q r s => by go_simp
  have p2 : ∀ p q r s : Int, (part 36 #[.int .i64 p, .int .i64 q, .int .i64 r, .int .i64 s] 2).run Tryz.prog w = .ok (.agg #[.int .i64 r, .int .i64 s]) w := fun p q r s => by go_simp
  show (Op.equalIn 10000 38 (.agg #[.int .i64 a, .int .i64 b, .int .i64 a', .int .i64 b']) (.agg #[.int .i64 c, .int .i64 d, .int .i64 c', .int .i64 d'])).run Tryz.prog w = _
  rw [show (10000 : Nat) = 9997 + 1 + 1 + 1 from rfl, run_equalIn_agg w (9997 + 1 + 1) 38 _ _ hS hp]
  simp only [Program.fieldsOf, Tryz.underlying38]
  simp only [Op.eqFields, Sem.run_bind, p0, p2, zu_, Result.andThen_ok]
  by_cases h1 : a = c <;> by_cases h2 : b = d <;> by_cases h3 : a' = c' <;> by_cases h4 : b' = d' <;> simp [Op.eqFields, Sem.run_bind, p0, p2, zu_, h1, h2, h3, h4]
end
section
set_option maxRecDepth 100000
set_option maxHeartbeats 4000000
theorem j1_ {l : List Sg} {k : Nat} (h : k < l.length) : (sgR l).getD k [] = [.i .i64 (l.getD k G0).1, .i .i64 (l.getD k G0).2.1, .i .i64 (l.getD k G0).2.2.1, .i .i64 (l.getD k G0).2.2.2] := ab3_ h
theorem aeh_ {a b : Sg} (h : ([a.1, a.2.1, a.2.2.1, a.2.2.2] : List Int) = [b.1, b.2.1, b.2.2.1, b.2.2.2]) : a = b := by
 obtain ⟨a1, a2, a3, a4⟩ := a
 obtain ⟨b1, b2, b3, b4⟩ := b
 simp at h
 obtain ⟨rfl, rfl, rfl, rfl⟩ := h; rfl
theorem aar_ {α : Type} {d : α} {a b : List α} {k : Nat} (ha : k < a.length) (hb : k < b.length) (h : a.take k = b.take k) (e : a.getD k d = b.getD k d) : a.take (k + 1) = b.take (k + 1) := by
 rw [List.take_add_one (l := a), List.take_add_one (l := b), h, List.getElem?_eq_getElem ha, List.getElem?_eq_getElem hb]
 rw [List.getD_eq_getElem?_getD, List.getD_eq_getElem?_getD, List.getElem?_eq_getElem ha, List.getElem?_eq_getElem hb] at e
 rw [show a[k] = b[k] by simpa using e]
theorem ad8_ {a b : Sg} (h : (!(some ([a.1, a.2.1, a.2.2.1, a.2.2.2] : List Int) == some [b.1, b.2.1, b.2.2.1, b.2.2.2])) = false) : a = b := aeh_ (by simpa using h)
theorem ad1_ {a b : Sg} (h : (!(some ([a.1, a.2.1, a.2.2.1, a.2.2.2] : List Int) == some [b.1, b.2.1, b.2.2.1, b.2.2.2])) = true) : a ≠ b := by
 rintro rfl
 simp at h
theorem yi_ (a b : List Sg) (ha : a.length ≤ 1000000000000) (hb : b.length ≤ 1000000000000) : ACall En 43 [.sl false (sgR a), .sl false (sgR b)] [] [.b (a == b)] [] := by
 refine ap_ (fn := Tryz.f43) [] Tryz.func43 rfl rfl (by simp) fun C => ?_
 rw [a0_]
 simp only [Tryz.ntmps43, List.length_cons, List.length_nil, Nat.reduceAdd, Nat.reduceSub, List.replicate_succ, List.replicate_zero, List.cons_append, List.nil_append, bq_]
 refine .seq (.rgn [] (by simp only [go_sem, seval, an_, af_, bl_, bm_, a9_, bk_]; rfl) ?_ ?_)
 ·first | trivial | simp
 refine .seq (.seq (.rgn [] (by simp only [go_sem, seval, an_, af_, bl_, bm_, a9_, bk_]; rfl) ?_ ?_))
 ·first | trivial | simp
 refine .condB (by simp only [go_sem, seval, an_, af_, bl_, bm_, a9_, bk_]; rfl) (by simp only [go_sem, seval, an_, af_, bl_, bm_, a9_, bk_]) (fun h10 => ?_) (fun h10 => ?_)
 ·refine .seq (.rgn [] (by simp only [go_sem, seval, an_, af_, bl_, bm_, a9_, bk_]; rfl) ?_ ?_)
  ·first | trivial | simp
  refine .ret ⟨.inr rfl, ?_⟩
  exact Out.plain (by simp only [Tryz.results43]; rfl) (by simp only [a1_, bc_, go_sem, seval, an_, af_, bl_, bm_, a9_, bk_] <;> (split <;> rfl)) (by simp only [ba_, go_sem, seval, an_, af_, bl_, bm_, a9_, bk_] <;> (have : a ≠ b := (fun e => by simp [e] at h10); simp [this])) (by simp only [go_sem, seval, an_, af_, bl_, bm_, a9_, bk_])
 ·refine .skip (.seq (.seq (.rgn [] (by simp only [go_sem, seval, an_, af_, bl_, bm_, a9_, bk_]; rfl) ?_ ?_)))
  ·first | trivial | simp
  refine .block (.loopK (fun k : Nat => ⟨[.sl false (sgR a), .sl false (sgR b), .no, .no, .no, .no, .no, .no, .no, .no, .no, .no, .i .i64 a.length, .i .i64 k, .no, .no, .no, .no, .no, .no, .no, .no, .no, .no, .no, .no], a6_ [], us []⟩) (fun k : Nat => k ≤ a.length ∧ a.take k = b.take k) (fun k : Nat => a.length - k) (0) ?_ ?_ (fun k hI => ?_))
  ·exact ⟨Nat.zero_le _, rfl⟩
  ·exact Can.weak (Weak.lit (by simp only [go_sem, seval, an_, af_, bl_, bm_, a9_, bk_, aw_, leV, at_, au_, V.inn, us, true_or, or_true] <;> (simp)) (by simp only [go_sem, seval, an_, af_, bl_, bm_, a9_, bk_, aw_, leV, at_, au_, V.inn, us, true_or, or_true]) (by simp only [go_sem, seval, an_, af_, bl_, bm_, a9_, bk_, aw_, leV, at_, au_, V.inn, us, true_or, or_true]))
  refine .seq (.rgn [] (by simp only [go_sem, seval, an_, af_, bl_, bm_, a9_, bk_]; rfl) ?_ ?_)
  ·first | trivial | simp
  refine .seq (.condB (by simp only [go_sem, seval, an_, af_, bl_, bm_, a9_, bk_]; rfl) (by simp only [go_sem, seval, an_, af_, bl_, bm_, a9_, bk_]) (fun h14 => ?_) (fun h14 => ?_))
  ·refine .skip (.seq (.block (.seq (.rgn [] (by simp only [go_sem, seval, an_, af_, bl_, bm_, a9_, bk_]; rfl) ?_ ?_))))
   ·first | trivial | simp
   refine .seq (.rgnDS [24] [bl_ En .neq 38 4 age_] enM (by simp only [go_sem, seval, an_, af_, bl_, bm_, a9_, bk_, j1_ (show k < a.length by simpa using h14), j1_ (show k < b.length by simp at h14 h10; omega)]; rfl) (by rfl) ?_ ?_)
   ·simp at h14 h10; simp; omega
   refine .condB (by simp only [go_sem, seval, an_, af_, bl_, bm_, a9_, bk_]; rfl) (by simp only [go_sem, seval, an_, af_, bl_, bm_, a9_, bk_]) (fun h24 => ?_) (fun h24 => ?_)
   ·refine .seq (.rgn [] (by simp only [go_sem, seval, an_, af_, bl_, bm_, a9_, bk_]; rfl) ?_ ?_)
    ·first | trivial | simp
    refine .ret ⟨.inr rfl, ?_⟩
    exact Out.plain (by simp only [Tryz.results43]; rfl) (by simp only [a1_, bc_, go_sem, seval, an_, af_, bl_, bm_, a9_, bk_] <;> (split <;> rfl)) (by simp only [ba_, go_sem, seval, an_, af_, bl_, bm_, a9_, bk_] <;> (have := ad1_ h24; have : a ≠ b := (fun e => this (by rw [e])); simp [this])) (by simp only [go_sem, seval, an_, af_, bl_, bm_, a9_, bk_])
   ·refine .skip (.rgn [] (by simp only [go_sem, seval, an_, af_, bl_, bm_, a9_, bk_]; rfl) ?_ ?_)
    ·first | trivial | simp
    refine Exists.intro (k + 1) ⟨?_, ?_, ?_⟩
    ·simp only [decide_eq_true_eq] at h14; simp at h10; exact ⟨by omega, aar_ (by omega) (by omega) hI.2 (ad8_ h24)⟩
    ·simp at h14; omega
    exact Can.weak (Weak.lit (by simp only [go_sem, seval, an_, af_, bl_, bm_, a9_, bk_, aw_, leV, at_, au_, V.inn, us, true_or, or_true] <;> (rw [a7_ (by simp at h14; omega) (by simp at h14; omega)]; simp)) (by simp only [go_sem, seval, an_, af_, bl_, bm_, a9_, bk_, aw_, leV, at_, au_, V.inn, us, true_or, or_true]) (by simp only [go_sem, seval, an_, af_, bl_, bm_, a9_, bk_, aw_, leV, at_, au_, V.inn, us, true_or, or_true]))
  ·refine .exit (.seq (.rgn [] (by simp only [go_sem, seval, an_, af_, bl_, bm_, a9_, bk_]; rfl) ?_ ?_))
   ·first | trivial | simp
   refine .ret ⟨.inr rfl, ?_⟩
   exact Out.plain (by simp only [Tryz.results43]; rfl) (by simp only [a1_, bc_, go_sem, seval, an_, af_, bl_, bm_, a9_, bk_] <;> (split <;> rfl)) (by simp only [ba_, go_sem, seval, an_, af_, bl_, bm_, a9_, bk_] <;> (simp only [decide_eq_false_iff_not] at h14; simp at h10; have q := hI.2; rw [List.take_of_length_le (by omega), List.take_of_length_le (by omega)] at q; simp [q])) (by simp only [go_sem, seval, an_, af_, bl_, bm_, a9_, bk_])
theorem sv_ (a b : List Sg) (ha : a.length ≤ 1000000000000) (hb : b.length ≤ 1000000000000) : ACall En 11 [.sl false (sgR a), .sl false (sgR b)] [] [.b (a == b)] [] := by
 refine ap_ (fn := Tryz.f11) [] Tryz.func11 rfl rfl (by simp) fun C => ?_
 rw [a0_]
 simp only [Tryz.ntmps11, List.length_cons, List.length_nil, Nat.reduceAdd, Nat.reduceSub, List.replicate_succ, List.replicate_zero, List.cons_append, List.nil_append, bq_]
 refine .seq (.rgn [] (by simp only [go_sem, seval, af_]; rfl) ?_ ?_)
 ·first | trivial | simp
 refine .seq (.rgn [a5_ (yi_ a b ha hb)] (by simp only [go_sem, seval, af_]; rfl) ?_ ?_)
 ·first | trivial | simp
 refine .ret ⟨.inr rfl, ?_⟩
 exact Out.plain (by simp only [Tryz.results11]; rfl) (by simp only [a1_, bc_, go_sem, seval, af_] <;> (split <;> rfl)) (by simp only [ba_, go_sem, seval, af_] <;> (rfl)) (by simp only [go_sem, seval, af_])
theorem t6_ (l c : Int) : ACall En 105 [.ag [.i .i64 l, .i .i64 c]] [] [.b ((decide (0 ≤ l) && decide (l ≤ 15)) && (decide (0 ≤ c) && decide (c ≤ 119)))] [] := by
 refine ap_ (fn := Tryz.f105) [] Tryz.func105 rfl rfl (by simp) fun C => ?_
 rw [a0_]
 simp only [Tryz.ntmps105, List.length_cons, List.length_nil, Nat.reduceAdd, Nat.reduceSub, List.replicate_succ, List.replicate_zero, List.cons_append, List.nil_append, bq_]
 refine .seq (.rgn [] (by simp only [go_sem, seval]; rfl) ?_ ?_)
 ·first | trivial | simp
 refine .seq (.rgn [a5_ (s6_ l 0 15), a5_ (s6_ c 0 119)] (by simp only [go_sem, seval]; rfl) ?_ ?_)
 ·first | trivial | simp
 refine .ret ⟨.inr rfl, ?_⟩
 exact Out.plain (by simp only [Tryz.results105]; rfl) (by simp only [a1_, bc_, go_sem, seval] <;> (split <;> rfl)) (by simp only [ba_, go_sem, seval] <;> (rfl)) (by simp only [go_sem, seval])
theorem u6_ (a b c d : Int) : ACall En 106 [.ag [.i .i64 a, .i .i64 b], .ag [.i .i64 c, .i .i64 d]] [] [.b (decide (a < c) || (a == c && decide (b < d)))] [] := by
 refine ap_ (fn := Tryz.f106) [] Tryz.func106 rfl rfl (by simp) fun C => ?_
 rw [a0_]
 simp only [Tryz.ntmps106, List.length_cons, List.length_nil, Nat.reduceAdd, Nat.reduceSub, List.replicate_succ, List.replicate_zero, List.cons_append, List.nil_append, bq_]
 refine .seq (.rgn [] (by simp only [go_sem, seval]; rfl) ?_ ?_)
 ·(first | trivial | (simp; done) | exact ⟨fun h => ⟨h, fun h2 => by rw [h, h2]; rfl⟩, fun h => by rw [h]; rfl⟩)
 refine .seq (.rgn [] (by simp only [go_sem, seval]; rfl) ?_ ?_)
 ·(first | trivial | (simp; done) | exact ⟨fun h => ⟨h, fun h2 => by rw [h, h2]; rfl⟩, fun h => by rw [h]; rfl⟩)
 refine .ret ⟨.inr rfl, ?_⟩
 exact Out.plain (by simp only [Tryz.results106]; rfl) (by simp only [a1_, bc_, go_sem, seval] <;> (split <;> rfl)) (by simp only [ba_, go_sem, seval] <;> (rfl)) (by simp only [go_sem, seval])
theorem hh_ {A B K : Bool} {P Q : Prop} (hP : (!(A || B) && K) = true → P ∧ Q) : (((A = false → (!A) = true) ∧ ((!(A || B) && K) = true → (!(A || B) && K) = true ∧ P ∧ Q)) ∧ ((!(A || B)) = true → (!(A || B)) = true ∧ (K = true → (!(A || B) && K) = true))) ∧ ((A || B) = false → (!(A || B)) = true) :=
 ⟨⟨⟨fun h => by rw [h]; rfl, fun h => ⟨h, hP h⟩⟩, fun h => ⟨h, fun h2 => by rw [h, h2]; rfl⟩⟩, fun h => by rw [h]; rfl⟩
theorem q2_ {l : List Sg} {k : Nat} : (!(decide (0 ≤ (l.getD k G0).1) && decide ((l.getD k G0).1 ≤ 15) && (decide (0 ≤ (l.getD k G0).2.1) && decide ((l.getD k G0).2.1 ≤ 119))) || !(decide (0 ≤ (l.getD k G0).2.2.1) && decide ((l.getD k G0).2.2.1 ≤ 15) && (decide (0 ≤ (l.getD k G0).2.2.2) && decide ((l.getD k G0).2.2.2 ≤ 119))) || decide ((k : Int) > 0) && !(decide ((l.getD (k - 1) G0).1 < (l.getD k G0).1) || (l.getD (k - 1) G0).1 == (l.getD k G0).1 && decide ((l.getD (k - 1) G0).2.1 < (l.getD k G0).2.1))) = !oc_ l k := by
 unfold oc_
 have e : decide ((k : Int) > 0) = !decide (k = 0) := by rw [← decide_not]; exact decide_eq_decide.2 (by omega)
 have e2 : ((l.getD (k - 1) G0).1 == (l.getD k G0).1) = decide ((l.getD (k - 1) G0).1 = (l.getD k G0).1) := by rw [Bool.eq_iff_iff]; simp
 rw [e, e2]
 simp only [Bool.not_and, Bool.not_or]
theorem sb_ (l : List Sg) (hl : l.length ≤ 1000000000000) : ACall En 55 [.sl false (sgR l)] [] [.b (rp_ l)] [] := by
 refine ap_ (fn := Tryz.f55) [] Tryz.func55 rfl rfl (by simp) fun C => ?_
 rw [a0_]
 simp only [Tryz.ntmps55, List.length_cons, List.length_nil, Nat.reduceAdd, Nat.reduceSub, List.replicate_succ, List.replicate_zero, List.cons_append, List.nil_append, bq_]
 refine .seq (.rgn [] (by simp only [go_sem, seval, an_, af_]; rfl) ?_ ?_)
 ·(first | trivial | (simp; done) | (simp at h8; simp; omega) | (refine hh_ fun h => ?_; rw [Bool.and_eq_true] at h; have h0 := of_decide_eq_true h.2; simp at h8; rw [a7_ (by omega) (by omega)]; omega))
 refine .seq (.seq (.rgn [] (by simp only [go_sem, seval, an_, af_]; rfl) ?_ ?_))
 ·(first | trivial | (simp; done) | (simp at h8; simp; omega) | (refine hh_ fun h => ?_; rw [Bool.and_eq_true] at h; have h0 := of_decide_eq_true h.2; simp at h8; rw [a7_ (by omega) (by omega)]; omega))
 refine .block (.loopK (fun k : Nat => ⟨[.sl false (sgR l), .no, .no, .no, .no, .sl false (sgR l), .i .i64 l.length, .i .i64 k, .no, .no, .no, .no, .no, .no, .no, .no, .no, .no, .no, .no, .no, .no, .no, .no, .no, .no, .no, .no, .no, .no, .no, .no, .no, .no, .no, .no, .no, .no, .no, .no, .no, .no], a6_ [], us []⟩) (fun k : Nat => k ≤ l.length ∧ (List.range k).all (oc_ l) = true) (fun k : Nat => l.length - k) (0) ?_ ?_ (fun k hI => ?_))
 ·exact ⟨Nat.zero_le _, rfl⟩
 ·exact Can.weak (Weak.lit (by simp only [go_sem, seval, an_, af_, aw_, leV, at_, au_, V.inn, us, true_or, or_true] <;> (simp)) (by simp only [go_sem, seval, an_, af_, aw_, leV, at_, au_, V.inn, us, true_or, or_true]) (by simp only [go_sem, seval, an_, af_, aw_, leV, at_, au_, V.inn, us, true_or, or_true]))
 refine .seq (.rgn [] (by simp only [go_sem, seval, an_, af_]; rfl) ?_ ?_)
 ·(first | trivial | (simp; done) | (simp at h8; simp; omega) | (refine hh_ fun h => ?_; rw [Bool.and_eq_true] at h; have h0 := of_decide_eq_true h.2; simp at h8; rw [a7_ (by omega) (by omega)]; omega))
 refine .seq (.condB (by simp only [go_sem, seval, an_, af_]; rfl) (by simp only [go_sem, seval, an_, af_]) (fun h8 => ?_) (fun h8 => ?_))
 ·refine .skip (.seq (.block (.seq (.rgn [] (by simp only [go_sem, seval, an_, af_, j1_ (show k < l.length by simpa using h8)]; rfl) ?_ ?_))))
  ·(first | trivial | (simp; done) | (simp at h8; simp; omega) | (refine hh_ fun h => ?_; rw [Bool.and_eq_true] at h; have h0 := of_decide_eq_true h.2; simp at h8; rw [a7_ (by omega) (by omega)]; omega))
  refine .seq (.rgnD [a5_ (t6_ (l.getD k G0).1 (l.getD k G0).2.1), a5_ (t6_ (l.getD k G0).2.2.1 (l.getD k G0).2.2.2), a5_ (u6_ (l.getD (k - 1) G0).1 (l.getD (k - 1) G0).2.1 (l.getD k G0).1 (l.getD k G0).2.1)] enM (by simp only [go_sem, seval, an_, af_, show (IntKind.i64.wrap ((k : Int) - 1)).toNat = k - 1 by (simp at h8; by_cases h0 : k = 0 <;> (try subst h0) <;> (try rw [a7_ (by omega) (by omega)]) <;> omega), j1_ (show k - 1 < l.length by simp at h8; omega)]; rfl) (by rfl) ?_ ?_)
  ·(first | trivial | (simp; done) | (simp at h8; simp; omega) | (refine hh_ fun h => ?_; rw [Bool.and_eq_true] at h; have h0 := of_decide_eq_true h.2; simp at h8; rw [a7_ (by omega) (by omega)]; omega))
  refine .condB (by simp only [go_sem, seval, an_, af_]; rfl) (by simp only [go_sem, seval, an_, af_]) (fun h37 => ?_) (fun h37 => ?_)
  ·refine .seq (.rgn [] (by simp only [go_sem, seval, an_, af_]; rfl) ?_ ?_)
   ·(first | trivial | (simp; done) | (simp at h8; simp; omega) | (refine hh_ fun h => ?_; rw [Bool.and_eq_true] at h; have h0 := of_decide_eq_true h.2; simp at h8; rw [a7_ (by omega) (by omega)]; omega))
   refine .ret ⟨.inr rfl, ?_⟩
   exact Out.plain (by simp only [Tryz.results55]; rfl) (by simp only [a1_, bc_, go_sem, seval, an_, af_] <;> (split <;> rfl)) (by simp only [ba_, go_sem, seval, an_, af_] <;> (rw [q2_] at h37; simp at h8; (have e : (List.range l.length).all (oc_ l) = false := (by rw [List.all_eq_false]; exact ⟨k, by simpa using h8, by simpa using h37⟩)); unfold rp_; rw [e]; rfl)) (by simp only [go_sem, seval, an_, af_])
  ·refine .skip (.rgn [] (by simp only [go_sem, seval, an_, af_]; rfl) ?_ ?_)
   ·(first | trivial | (simp; done) | (simp at h8; simp; omega) | (refine hh_ fun h => ?_; rw [Bool.and_eq_true] at h; have h0 := of_decide_eq_true h.2; simp at h8; rw [a7_ (by omega) (by omega)]; omega))
   refine Exists.intro (k + 1) ⟨?_, ?_, ?_⟩
   ·rw [q2_] at h37; simp at h8; exact ⟨by omega, by rw [List.range_succ, List.all_append, hI.2]; simpa using h37⟩
   ·simp at h8; omega
   exact Can.weak (Weak.lit (by simp only [go_sem, seval, an_, af_, aw_, leV, at_, au_, V.inn, us, true_or, or_true] <;> (rw [a7_ (by simp at h8; omega) (by simp at h8; omega)]; simp)) (by simp only [go_sem, seval, an_, af_, aw_, leV, at_, au_, V.inn, us, true_or, or_true]) (by simp only [go_sem, seval, an_, af_, aw_, leV, at_, au_, V.inn, us, true_or, or_true]))
 ·refine .exit (.seq (.rgn [] (by simp only [go_sem, seval, an_, af_]; rfl) ?_ ?_))
  ·(first | trivial | (simp; done) | (simp at h8; simp; omega) | (refine hh_ fun h => ?_; rw [Bool.and_eq_true] at h; have h0 := of_decide_eq_true h.2; simp at h8; rw [a7_ (by omega) (by omega)]; omega))
  refine .ret ⟨.inr rfl, ?_⟩
  exact Out.plain (by simp only [Tryz.results55]; rfl) (by simp only [a1_, bc_, go_sem, seval, an_, af_] <;> (split <;> rfl)) (by simp only [ba_, go_sem, seval, an_, af_] <;> (simp only [decide_eq_false_iff_not] at h8; (obtain rfl : k = l.length := (by omega)); unfold rp_; rw [hI.2, Bool.true_and, show decide ((l.length : Int) ≤ 1280) = decide (l.length ≤ 1280) from decide_eq_decide.2 (by omega)])) (by simp only [go_sem, seval, an_, af_])
theorem yu_ (s : Sl) (i : Int) (h : sok s = true) (hs : d7_ s = true) : ACall En 44 [.ag (sC s), .i .i64 i] [] [.sl false (sgR (sgs i (tkE s) (emF s)))] [] := by
 have T : ACall En 96 [.s (emT s)] [] [.sl false (tkR (tkE s)), .b (ci_ (emT s)).isSome] [] := tc_ (emT s) (by have := pu_ h; omega)
 have hl := os_ h
 have hf := ov_ h
 refine ap_ (fn := Tryz.f44) [] Tryz.func44 rfl rfl (by simp) fun C => ?_
 rw [a0_]
 simp only [Tryz.ntmps44, List.length_cons, List.length_nil, Nat.reduceAdd, Nat.reduceSub, List.replicate_succ, List.replicate_zero, List.cons_append, List.nil_append, bq_]
 refine .seq (.rgn [] (by simp only [go_sem, seval, ae_, ao_, aj_, as_, ag_, af_]; rfl) ?_ ?_)
 ·(first | trivial | (simp; done) | (simp only [decide_eq_true_eq] at h25; have q := cq_ i (tkE s) (emF s) k; simp [bt_, an_]; omega))
 refine .seq (.rgn [] (by simp only [go_sem, seval, ae_, ao_, aj_, as_, ag_, af_]; rfl) ?_ ?_)
 ·(first | trivial | (simp; done) | (simp only [decide_eq_true_eq] at h25; have q := cq_ i (tkE s) (emF s) k; simp [bt_, an_]; omega))
 refine .seq (.rgn [a5_ (qr_ s hs)] (by simp only [go_sem, seval, ae_, ao_, aj_, as_, ag_, af_]; rfl) ?_ ?_)
 ·(first | trivial | (simp; done) | (simp only [decide_eq_true_eq] at h25; have q := cq_ i (tkE s) (emF s) k; simp [bt_, an_]; omega))
 refine .seq (.rgn [a5_ T] (by simp only [go_sem, seval, ae_, ao_, aj_, as_, ag_, af_]; rfl) ?_ ?_)
 ·(first | trivial | (simp; done) | (simp only [decide_eq_true_eq] at h25; have q := cq_ i (tkE s) (emF s) k; simp [bt_, an_]; omega))
 refine .seq (.seq (.rgn [] (by simp only [go_sem, seval, ae_, ao_, aj_, as_, ag_, af_]; rfl) ?_ ?_))
 ·(first | trivial | (simp; done) | (simp only [decide_eq_true_eq] at h25; have q := cq_ i (tkE s) (emF s) k; simp [bt_, an_]; omega))
 refine .block (.loopK (fun k : Nat => ⟨[.no, .i .i64 i, .no, .no, .no, .ow 60 4 0 (sgK i (tkE s) (emF s) k).length, .no, .sl false (inR (emF s)), .sl false (tkR (tkE s)), .no, .i .i64 k, .no, .no, .no, .no, .no, .no, .no, .no, .no, .no, .no, .no, .no, .no, .no, .no, .no, .no, .no, .no, .no, .no, .no, .no, .no, .no, .no, .no, .no, .no, .no, .no, .no, .no, .no, .no, .no, .no, .no, .no], a6_ [(60, ⟨38, 4, sgR (sgK i (tkE s) (emF s) k)⟩)], us [60]⟩) (fun k : Nat => k ≤ (emF s).length) (fun k : Nat => (emF s).length - k) (0) ?_ ?_ (fun k hI => ?_))
 ·simp
 ·refine Can.trans (Can.ownSlot 5 60 38 4 (by simp only [go_sem, seval, ae_, ao_, aj_, as_, ag_, af_] <;> rfl) (by simp only [go_sem, seval, ae_, ao_, aj_, as_, ag_, af_]) (by simp only [go_sem, seval, ae_, ao_, aj_, as_, ag_, af_] <;> rfl)) ?_
  exact Can.weak (Weak.lit (by simp only [go_sem, seval, ae_, ao_, aj_, as_, ag_, af_, aw_, leV, at_, au_, V.inn, us, true_or, or_true] <;> (simp [hc_])) (by simp only [go_sem, seval, ae_, ao_, aj_, as_, ag_, af_, aw_, leV, at_, au_, V.inn, us, true_or, or_true]) (by simp only [go_sem, seval, ae_, ao_, aj_, as_, ag_, af_, aw_, leV, at_, au_, V.inn, us, true_or, or_true] <;> (simp [hc_, sgR])))
 refine .seq (.seq (.rgn [] (by simp only [go_sem, seval, ae_, ao_, aj_, as_, ag_, af_]; rfl) ?_ ?_))
 ·(first | trivial | (simp; done) | (simp only [decide_eq_true_eq] at h25; have q := cq_ i (tkE s) (emF s) k; simp [bt_, an_]; omega))
 refine .condB (by simp only [go_sem, seval, ae_, ao_, aj_, as_, ag_, af_]; rfl) (by simp only [go_sem, seval, ae_, ao_, aj_, as_, ag_, af_]) (fun h25 => ?_) (fun h25 => ?_)
 ·refine .skip (.seqJ (fun u : Unit => ⟨[.no, .i .i64 i, .no, .no, .no, .ow 60 4 0 (sgK i (tkE s) (emF s) (k + 1)).length, .no, .sl false (inR (emF s)), .sl false (tkR (tkE s)), .no, .i .i64 k, .no, .no, .no, .no, .no, .no, .no, .no, .no, .no, .no, .no, .no, .no, .no, .no, .no, .no, .no, .no, .no, .no, .no, .no, .no, .no, .no, .no, .no, .no, .no, .no, .no, .no, .no, .no, .no, .no, .no, .no], a6_ [(60, ⟨38, 4, sgR (sgK i (tkE s) (emF s) (k + 1))⟩)], us [60]⟩) (fun u : Unit => True) ?_ (fun u hJ => ?_))
  ·refine .block (.seq (.rgn [] (by simp only [go_sem, seval, ae_, ao_, aj_, as_, ag_, af_, e8_ (show k < (emF s).length by simpa using h25)]; rfl) ?_ ?_))
   ·(first | trivial | (simp; done) | (simp only [decide_eq_true_eq] at h25; have q := cq_ i (tkE s) (emF s) k; simp [bt_, an_]; omega))
   refine .condB (by simp only [go_sem, seval, ae_, ao_, aj_, as_, ag_, af_]; rfl) (by simp only [go_sem, seval, ae_, ao_, aj_, as_, ag_, af_]) (fun h32 => ?_) (fun h32 => ?_)
   ·refine .rgnD [] enM (by simp only [go_sem, seval, ae_, ao_, aj_, as_, ag_, af_, e8_ (show k < (emF s).length by simpa using h25), k4_ (show k < (tkE s).length by simp at h25; omega)]; rfl) (by rfl) ?_ ?_
    ·(first | trivial | (simp; done) | (simp only [decide_eq_true_eq] at h25; have q := cq_ i (tkE s) (emF s) k; simp [bt_, an_]; omega))
    refine Exists.intro (()) ⟨?_, ?_⟩
    ·trivial
    refine Can.trans (Can.swap 59 60 (by decide) (by decide) (by decide) (by decide) (by simp only [go_sem, seval, ae_, ao_, aj_, as_, ag_, af_, V.cl]) (by simp only [go_sem, seval, ae_, ao_, aj_, as_, ag_, af_, V.cl]) (by simp only [go_sem, seval, ae_, ao_, aj_, as_, ag_, af_, be_, sw, swM, rnB] <;> rfl) (by simp only [go_sem, seval, ae_, ao_, aj_, as_, ag_, af_, be_, sw, swM, rnB] <;> rfl) (by simp only [go_sem, seval, ae_, ao_, aj_, as_, ag_, af_, be_, sw, swM, rnB] <;> rfl)) ?_
    exact Can.weak (Weak.lit (by simp only [go_sem, seval, ae_, ao_, aj_, as_, ag_, af_, aw_, leV, at_, au_, V.inn, us, true_or, or_true] <;> (simp only [decide_eq_true_eq] at h25; first | (rw [cj_ (by omega) (by omega), if_pos (by simpa using h32)]; simp; done) | (rw [cj_ (by omega) (by omega), if_neg (by simpa using h32)]; simp; done))) (by simp only [go_sem, seval, ae_, ao_, aj_, as_, ag_, af_, aw_, leV, at_, au_, V.inn, us, true_or, or_true]) (by simp only [go_sem, seval, ae_, ao_, aj_, as_, ag_, af_, aw_, leV, at_, au_, V.inn, us, true_or, or_true] <;> (simp only [decide_eq_true_eq] at h25; first | (rw [cj_ (by omega) (by omega), if_pos (by simpa using h32)]; simp [sgR, sgC, T0k]; done) | (rw [cj_ (by omega) (by omega), if_neg (by simpa using h32)]; simp; done))))
   ·refine .skip ?_
    refine Exists.intro (()) ⟨?_, ?_⟩
    ·trivial
    exact Can.weak (Weak.lit (by simp only [go_sem, seval, ae_, ao_, aj_, as_, ag_, af_, aw_, leV, at_, au_, V.inn, us, true_or, or_true] <;> (simp only [decide_eq_true_eq] at h25; first | (rw [cj_ (by omega) (by omega), if_pos (by simpa using h32)]; simp; done) | (rw [cj_ (by omega) (by omega), if_neg (by simpa using h32)]; simp; done))) (by simp only [go_sem, seval, ae_, ao_, aj_, as_, ag_, af_, aw_, leV, at_, au_, V.inn, us, true_or, or_true]) (by simp only [go_sem, seval, ae_, ao_, aj_, as_, ag_, af_, aw_, leV, at_, au_, V.inn, us, true_or, or_true] <;> (simp only [decide_eq_true_eq] at h25; first | (rw [cj_ (by omega) (by omega), if_pos (by simpa using h32)]; simp [sgR, sgC, T0k]; done) | (rw [cj_ (by omega) (by omega), if_neg (by simpa using h32)]; simp; done))))
  refine .rgn [] (by simp only [go_sem, seval, ae_, ao_, aj_, as_, ag_, af_]; rfl) ?_ ?_
  ·(first | trivial | (simp; done) | (simp only [decide_eq_true_eq] at h25; have q := cq_ i (tkE s) (emF s) k; simp [bt_, an_]; omega))
  refine Exists.intro (k + 1) ⟨?_, ?_, ?_⟩
  ·simp at h25; omega
  ·simp at h25; omega
  exact Can.weak (Weak.lit (by simp only [go_sem, seval, ae_, ao_, aj_, as_, ag_, af_, aw_, leV, at_, au_, V.inn, us, true_or, or_true] <;> (rw [a7_ (by simp at h25; omega) (by simp at h25; omega)]; simp)) (by simp only [go_sem, seval, ae_, ao_, aj_, as_, ag_, af_, aw_, leV, at_, au_, V.inn, us, true_or, or_true]) (by simp only [go_sem, seval, ae_, ao_, aj_, as_, ag_, af_, aw_, leV, at_, au_, V.inn, us, true_or, or_true]))
 ·refine .exit (.seq (.rgn [] (by simp only [go_sem, seval, ae_, ao_, aj_, as_, ag_, af_]; rfl) ?_ ?_))
  ·(first | trivial | (simp; done) | (simp only [decide_eq_true_eq] at h25; have q := cq_ i (tkE s) (emF s) k; simp [bt_, an_]; omega))
  refine .frz 60 (by simp only [go_sem, seval, ae_, ao_, aj_, as_, ag_, af_]; rfl) (by simp only [go_sem, seval, ae_, ao_, aj_, as_, ag_, af_]) (by simp only [go_sem, seval, ae_, ao_, aj_, as_, ag_, af_]; rfl) (by simp only [go_sem, seval, ae_, ao_, aj_, as_, ag_, af_]; rfl) ?_
  refine .ret ⟨.inr rfl, ?_⟩
  exact Out.plain (by simp only [Tryz.results44]; rfl) (by simp only [a1_, bc_, go_sem, seval, ae_, ao_, aj_, as_, ag_, af_] <;> (split <;> rfl)) (by simp only [ba_, go_sem, seval, ae_, ao_, aj_, as_, ag_, af_] <;> (simp only [decide_eq_false_iff_not] at h25; rw [o9_ (.inr (by omega))]; simp [List.take_of_length_le, an_, peel])) (by simp only [go_sem, seval, ae_, ao_, aj_, as_, ag_, af_])
theorem qs_ (l : List Sl) (hs : kt_ l = true) (hl : l.length < 4611686018427387904) : ACall En 12 [.sl false (sR l)] [] [.sl false (sgR (sgP l))] [] := by
 have hE : ∀ k, pok l = true ∧ k < l.length → ACall En 44 [.ag (sC (l.getD k S0)), .i .i64 k] [] [.sl false (sgR (sgS k (l.getD k S0)))] [] := fun k h => yu_ (l.getD k S0) k ((b0_ h.1).2.2 k h.2) (ik_ hs h.2)
 refine ap_ (fn := Tryz.f12) [] Tryz.func12 rfl rfl (by simp) fun C => ?_
 rw [a0_]
 simp only [Tryz.ntmps12, List.length_cons, List.length_nil, Nat.reduceAdd, Nat.reduceSub, List.replicate_succ, List.replicate_zero, List.cons_append, List.nil_append, bq_]
 refine .seq (.rgn [] (by simp only [go_sem, seval, am_, ai_, ae_, af_, an_]; rfl) ?_ ?_)
 ·(first | trivial | (simp; done) | (simp only [Bool.and_eq_true, decide_eq_true_eq] at h13; obtain ⟨hk, hp⟩ := h13; have h2 := (b0_ hp).2.2 k (by omega); have q1 := c2_ hp (k := k) (by omega); have q2 := cs_ (i := k) h2; exact ⟨⟨⟨by omega, by omega⟩, hp, by omega⟩, of_eq_true (bz_ _), by simp, by omega⟩))
 refine .seq (.rgn [] (by simp only [go_sem, seval, am_, ai_, ae_, af_, an_]; rfl) ?_ ?_)
 ·(first | trivial | (simp; done) | (simp only [Bool.and_eq_true, decide_eq_true_eq] at h13; obtain ⟨hk, hp⟩ := h13; have h2 := (b0_ hp).2.2 k (by omega); have q1 := c2_ hp (k := k) (by omega); have q2 := cs_ (i := k) h2; exact ⟨⟨⟨by omega, by omega⟩, hp, by omega⟩, of_eq_true (bz_ _), by simp, by omega⟩))
 refine .seq (.seq (.rgn [] (by simp only [go_sem, seval, am_, ai_, ae_, af_, an_]; rfl) ?_ ?_))
 ·(first | trivial | (simp; done) | (simp only [Bool.and_eq_true, decide_eq_true_eq] at h13; obtain ⟨hk, hp⟩ := h13; have h2 := (b0_ hp).2.2 k (by omega); have q1 := c2_ hp (k := k) (by omega); have q2 := cs_ (i := k) h2; exact ⟨⟨⟨by omega, by omega⟩, hp, by omega⟩, of_eq_true (bz_ _), by simp, by omega⟩))
 refine .block (.loopK (fun k : Nat => ⟨[.sl false (sR l), .no, .no, .ow 60 4 0 (sgN l k).length, .i .i64 k, .no, .no, .no, .no, .no, .no, .no, .no, .no, .no, .no, .no, .no, .no, .no, .no, .no, .no, .no, .no], a6_ [(60, ⟨38, 4, sgR (sgN l k)⟩)], us [60]⟩) (fun k : Nat => k ≤ l.length ∧ (0 < k → pok l = true)) (fun k : Nat => l.length - k) (0) ?_ ?_ (fun k hI => ?_))
 ·exact ⟨by simp, fun h => by omega⟩
 ·refine Can.trans (Can.ownSlot 3 60 38 4 (by simp only [go_sem, seval, am_, ai_, ae_, af_, an_] <;> rfl) (by simp only [go_sem, seval, am_, ai_, ae_, af_, an_]) (by simp only [go_sem, seval, am_, ai_, ae_, af_, an_] <;> rfl)) ?_
  exact Can.weak (Weak.lit (by simp only [go_sem, seval, am_, ai_, ae_, af_, an_, aw_, leV, at_, au_, V.inn, us, true_or, or_true] <;> (simp [sgN])) (by simp only [go_sem, seval, am_, ai_, ae_, af_, an_, aw_, leV, at_, au_, V.inn, us, true_or, or_true]) (by simp only [go_sem, seval, am_, ai_, ae_, af_, an_, aw_, leV, at_, au_, V.inn, us, true_or, or_true] <;> (simp [sgN, sgR])))
 refine .seq (.seq (.rgn [a5_ (oj_ l hs hl)] (by simp only [go_sem, seval, am_, ai_, ae_, af_, an_]; rfl) ?_ ?_))
 ·(first | trivial | (simp; done) | (simp only [Bool.and_eq_true, decide_eq_true_eq] at h13; obtain ⟨hk, hp⟩ := h13; have h2 := (b0_ hp).2.2 k (by omega); have q1 := c2_ hp (k := k) (by omega); have q2 := cs_ (i := k) h2; exact ⟨⟨⟨by omega, by omega⟩, hp, by omega⟩, of_eq_true (bz_ _), by simp, by omega⟩))
 refine .condB (by simp only [go_sem, seval, am_, ai_, ae_, af_, an_]; rfl) (by simp only [go_sem, seval, am_, ai_, ae_, af_, an_]) (fun h13 => ?_) (fun h13 => ?_)
 ·refine .skip (.seq (.block (.rgn [dg_ (pok l = true ∧ k < l.length) (hE k)] (by simp only [go_sem, seval, am_, ai_, ae_, af_, an_, lw_ (show k < l.length by simp at h13; exact h13.1), ae_]; rfl) ?_ ?_)))
  ·(first | trivial | (simp; done) | (simp only [Bool.and_eq_true, decide_eq_true_eq] at h13; obtain ⟨hk, hp⟩ := h13; have h2 := (b0_ hp).2.2 k (by omega); have q1 := c2_ hp (k := k) (by omega); have q2 := cs_ (i := k) h2; exact ⟨⟨⟨by omega, by omega⟩, hp, by omega⟩, of_eq_true (bz_ _), by simp, by omega⟩))
  refine .rgn [] (by simp only [go_sem, seval, am_, ai_, ae_, af_, an_]; rfl) ?_ ?_
  ·(first | trivial | (simp; done) | (simp only [Bool.and_eq_true, decide_eq_true_eq] at h13; obtain ⟨hk, hp⟩ := h13; have h2 := (b0_ hp).2.2 k (by omega); have q1 := c2_ hp (k := k) (by omega); have q2 := cs_ (i := k) h2; exact ⟨⟨⟨by omega, by omega⟩, hp, by omega⟩, of_eq_true (bz_ _), by simp, by omega⟩))
  refine Exists.intro (k + 1) ⟨?_, ?_, ?_⟩
  ·simp at h13; exact ⟨by omega, fun _ => h13.2⟩
  ·simp at h13; omega
  refine Can.trans (Can.swap 33 60 (by decide) (by decide) (by decide) (by decide) (by simp only [go_sem, seval, am_, ai_, ae_, af_, an_, V.cl]) (by simp only [go_sem, seval, am_, ai_, ae_, af_, an_, V.cl]) (by simp only [go_sem, seval, am_, ai_, ae_, af_, an_, be_, sw, swM, rnB] <;> rfl) (by simp only [go_sem, seval, am_, ai_, ae_, af_, an_, be_, sw, swM, rnB] <;> rfl) (by simp only [go_sem, seval, am_, ai_, ae_, af_, an_, be_, sw, swM, rnB] <;> rfl)) ?_
  exact Can.weak (Weak.lit (by simp only [go_sem, seval, am_, ai_, ae_, af_, an_, aw_, leV, at_, au_, V.inn, us, true_or, or_true] <;> (rw [a7_ (by simp at h13; omega) (by simp at h13; omega)]; simp [sgN])) (by simp only [go_sem, seval, am_, ai_, ae_, af_, an_, aw_, leV, at_, au_, V.inn, us, true_or, or_true]) (by simp only [go_sem, seval, am_, ai_, ae_, af_, an_, aw_, leV, at_, au_, V.inn, us, true_or, or_true] <;> (simp [sgN, ud_])))
 ·refine .exit (.seq (.rgn [] (by simp only [go_sem, seval, am_, ai_, ae_, af_, an_]; rfl) ?_ ?_))
  ·(first | trivial | (simp; done) | (simp only [Bool.and_eq_true, decide_eq_true_eq] at h13; obtain ⟨hk, hp⟩ := h13; have h2 := (b0_ hp).2.2 k (by omega); have q1 := c2_ hp (k := k) (by omega); have q2 := cs_ (i := k) h2; exact ⟨⟨⟨by omega, by omega⟩, hp, by omega⟩, of_eq_true (bz_ _), by simp, by omega⟩))
  refine .frz 60 (by simp only [go_sem, seval, am_, ai_, ae_, af_, an_]; rfl) (by simp only [go_sem, seval, am_, ai_, ae_, af_, an_]) (by simp only [go_sem, seval, am_, ai_, ae_, af_, an_]; rfl) (by simp only [go_sem, seval, am_, ai_, ae_, af_, an_]; rfl) ?_
  refine .ret ⟨.inr rfl, ?_⟩
  exact Out.plain (by simp only [Tryz.results12]; rfl) (by simp only [a1_, bc_, go_sem, seval, am_, ai_, ae_, af_, an_] <;> (split <;> rfl)) (by simp only [ba_, go_sem, seval, am_, ai_, ae_, af_, an_] <;> (by_cases hp : pok l = true; (rw [hp, Bool.and_true] at h13; simp at h13; (obtain rfl : k = l.length := (by omega)); rw [List.take_of_length_le (by rw [an_]; exact Nat.le_refl _)]; unfold sgP; rw [if_pos hp]); (have h0 : k = 0 := (by rcases Nat.eq_zero_or_pos k with q | q; exact q; exact absurd (hI.2 q) hp); subst h0; simp [sgP, hp, sgN, sgR]))) (by simp only [go_sem, seval, am_, ai_, ae_, af_, an_])
end
end Go.Proofs.YtefmbmafdgedmaaGreatDoor
