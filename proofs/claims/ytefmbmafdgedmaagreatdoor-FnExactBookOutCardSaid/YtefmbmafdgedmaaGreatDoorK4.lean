/- Numbers and words of a line: the reference's l12Num, l3Num, TokOk, TokKind, l3Class. Conditions: none. -/
import Derived.Test.YtefmbmafdgedmaaGreatDoorKn
import Derived.Test.YtefmbmafdgedmaaGreatDoorKg
import Derived.Test.YtefmbmafdgedmaaGreatDoorKd
import Derived.Test.YtefmbmafdgedmaaGreatDoorKb
import Derived.Test.YtefmbmafdgedmaaGreatDoorK1
set_option linter.unusedVariables false
set_option linter.unusedSimpArgs false
namespace Go.Proofs.YtefmbmafdgedmaaGreatDoor
section
set_option maxRecDepth 100000
set_option maxHeartbeats 4000000
theorem ku_ (s : Str) : (decide ((s.length : Int) > 0) && (((s.getD 0 0).toNat : Int) == 45)) = (s.head? == some 45) := by
 cases s with
 | nil => rfl
 | cons c r =>
  have h : decide (((c :: r).length : Int) > 0) = true := by simp only [T7_, T3_]; omega
  rw [h, Bool.true_and]
  simp only [List.getD_cons_zero, List.head?_cons]
  rw [Bool.eq_iff_iff]
  simp only [beq_iff_eq, Option.some.injEq]
  constructor
  ·intro e; apply UInt8.toNat_inj.1; show _ = 45; omega
  ·intro e; rw [e]; rfl
theorem s1_ : ∀ (k : Nat) (l : Str), k ≤ l.length → (l.take k).all de_ = true → cp_ (l.take k) < 10 ^ k
 | 0, l, _, _ => by simp [cp_]
 | k + 1, l, hk, h => by
  have e : l.take (k + 1) = l.take k ++ [l.getD k 0] := by
   rw [List.take_add_one, T6_ hk, T8_, T6_ hk]; rfl
  rw [e, List.all_append, T5_] at h
  have ih := s1_ k l (by omega) h.1
  rw [e, ie_, Nat.pow_succ]
  have hd : de_ (l.getD k 0) = true := by simpa using h.2
  simp only [de_, T5_, T3_] at hd
  omega
theorem aev_ {l : Str} {k : Nat} (hk : k < l.length) : cp_ (l.take (k + 1)) = cp_ (l.take k) * 10 + ((l.getD k 0).toNat - 48) := by
 have e : l.take (k + 1) = l.take k ++ [l.getD k 0] := by
  rw [List.take_add_one, T6_ hk, T8_, T6_ hk]; rfl
 rw [e, ie_]
theorem agq_ {l : Str} {k : Nat} (hk : k ≤ l.length) (h17 : l.length ≤ 17) (h : (l.take k).all de_ = true) : cp_ (l.take k) < 100000000000000000 := by
 have := s1_ k l hk h
 have h2 : 10 ^ k ≤ 10 ^ 17 := Nat.pow_le_pow_right (by decide) (by omega)
 have h3 : (10 : Nat) ^ 17 = 100000000000000000 := by decide
 omega
def j3_ (s : Str) : Bool := s.head? == some 45
def dx_ (s : Str) : Str := if j3_ s then s.tail else s
theorem rd_ (s : Str) : i0_ s = if (dx_ s).length = 0 ∨ 17 < (dx_ s).length ∨ ((dx_ s).head? = some 48 ∧ (1 < (dx_ s).length ∨ j3_ s = true)) then (0, false) else if (dx_ s).all de_ then (if j3_ s then -(cp_ (dx_ s) : Int) else cp_ (dx_ s), true) else (0, false) := rfl
theorem ah2_ (q : Str) (h : q ≠ []) : (((q.getD 0 0).toNat : Int) == 48) = decide (q.head? = some 48) := by
 cases q with
 | nil => exact absurd rfl h
 | cons c r =>
  simp only [List.getD_cons_zero, List.head?_cons, Option.some.injEq]
  rw [Bool.eq_iff_iff]
  simp only [beq_iff_eq, T3_]
  constructor
  ·intro e; apply UInt8.toNat_inj.1; show _ = 48; omega
  ·intro e; rw [e]; rfl
theorem ag2_ (q : Str) (n : Bool) : (((q.length : Int) == 0) || decide ((q.length : Int) > 17) || (((q.getD 0 0).toNat : Int) == 48) && (decide ((q.length : Int) > 1) || n)) = decide (q.length = 0 ∨ 17 < q.length ∨ (q.head? = some 48 ∧ (1 < q.length ∨ n = true))) := by
 by_cases hq : q = []
 ·subst hq; simp
 ·rw [ah2_ q hq, Bool.eq_iff_iff]
  simp only [Bool.or_eq_true, T5_, beq_iff_eq, T3_]
  constructor
  ·rintro ((h | h) | ⟨h1, h2 | h2⟩)
   ·exact .inl (by omega)
   ·exact .inr (.inl (by omega))
   ·exact .inr (.inr ⟨h1, .inl (by omega)⟩)
   ·exact .inr (.inr ⟨h1, .inr h2⟩)
  ·rintro (h | h | ⟨h1, h2 | h2⟩)
   ·exact .inl (.inl (by omega))
   ·exact .inl (.inr (by omega))
   ·exact .inr ⟨h1, .inl (by omega)⟩
   ·exact .inr ⟨h1, .inr h2⟩
theorem zh_ {s : Str} (h : (((dx_ s).length : Int) == 0 || decide (((dx_ s).length : Int) > 17) || ((((dx_ s).getD 0 0).toNat : Int) == 48) && (decide (((dx_ s).length : Int) > 1) || j3_ s)) = true) : i0_ s = (0, false) := by
 rw [ag2_] at h
 rw [rd_, if_pos (of_decide_eq_true h)]
theorem qq_ {s : Str} (h : (((dx_ s).length : Int) == 0 || decide (((dx_ s).length : Int) > 17) || ((((dx_ s).getD 0 0).toNat : Int) == 48) && (decide (((dx_ s).length : Int) > 1) || j3_ s)) = false) : (dx_ s).length ≤ 17 ∧ i0_ s = (if (dx_ s).all de_ then (if j3_ s then -(cp_ (dx_ s) : Int) else cp_ (dx_ s), true) else (0, false)) := by
 rw [ag2_] at h
 have := of_decide_eq_false h
 exact ⟨by omega, by rw [rd_, if_neg this]⟩
theorem aar_ (c : UInt8) : ∀ (s : Str) (k : Nat), k < s.length → c ∉ s.take k → s.getD k 0 = c → Lib.indexByte s c = k
 | [], k, h, _, _ => by simp at h
 | b :: s, 0, _, _, e => by
  simp only [List.getD_cons_zero] at e
  subst e
  unfold Lib.indexByte; simp
 | b :: s, k + 1, h, hn, e => by
  simp only [List.take_succ_cons, List.mem_cons, not_or] at hn
  have ih := aar_ c s k (by simpa using h) hn.2 (by simpa using e)
  unfold Lib.indexByte
  rw [if_neg (by simpa using fun q => hn.1 q.symm), ih, if_neg (by simp)]; rfl
theorem ajp_ (c : UInt8) (s : Str) (h : c ∉ s) : Lib.indexByte s c = -1 := by
 have h1 := yh_ s c
 have h2 : ¬ 0 ≤ Lib.indexByte s c := fun q => h ((tw_ s c).1 q)
 omega
theorem ai1_ {a b : UInt8} (h : ((a.toNat : Int) == (b.toNat : Int)) = true) : a = b := by
 simp only [beq_iff_eq] at h
 apply UInt8.toNat_inj.1; omega
theorem ah0_ {a b : UInt8} (h : ((a.toNat : Int) == (b.toNat : Int)) = false) : a ≠ b := by
 rintro rfl; simp at h
theorem ahn_ {s : Str} {k : Nat} {c : UInt8} (hk : k < s.length) (h : c ∉ s.take k) (h2 : s.getD k 0 ≠ c) : c ∉ s.take (k + 1) := by
 rw [List.take_add_one, T6_ hk]
 rw [T8_, T6_ hk] at h2
 simp only [Option.toList, List.mem_append, List.mem_cons, List.not_mem_nil, or_false, not_or]
 exact ⟨h, fun e => h2 e.symm⟩
theorem ahc_ {c : UInt8} (h : (decide ((c.toNat : Int) < 48) || decide ((c.toNat : Int) > 57)) = true) : de_ c = false := by
 simp only [Bool.or_eq_true, T3_] at h
 rw [Bool.eq_false_iff]
 intro q
 simp only [de_, T5_, T3_] at q
 omega
theorem sq_ {c : UInt8} (h : (decide ((c.toNat : Int) < 48) || decide ((c.toNat : Int) > 57)) = false) : de_ c = true ∧ 48 ≤ c.toNat ∧ c.toNat ≤ 57 := by
 simp only [Bool.or_eq_false_iff, T4_] at h
 simp only [de_, T5_, T3_]
 omega
theorem al7_ {n : Int} (h1 : 0 ≤ n) (h2 : n < 256) : IntKind.u8.wrap n = n := by
 have e : (2 : Int) ^ IntKind.u8.bits = 256 := rfl
 have e' : IntKind.u8.signed = false := rfl
 simp only [IntKind.wrap, e, e', Bool.false_and, Bool.false_eq_true, if_false]
 omega
theorem ajx_ {q : Str} {k : Nat} (hk : k < q.length) : (q.take (k + 1)).all de_ = ((q.take k).all de_ && de_ (q.getD k 0)) := by
 rw [List.take_add_one, T6_ hk, List.all_append, T8_, T6_ hk]; simp
theorem xm_ (s : Str) (hs : s.length ≤ 281474976710656) : ACall En 236 [.s s] [] [.i .i64 (i0_ s).1, .b (i0_ s).2] [] := by
 have hq : (dx_ s).length ≤ s.length := by unfold dx_; split <;> simp
 have hN := rd_ s
 refine ao_ (fn := Tryz.f236) [] Tryz.func236 rfl rfl (by simp) fun C => ?_
 rw [bb_]
 simp only [Tryz.ntmps236, T7_, List.length_nil, Nat.reduceAdd, Nat.reduceSub, List.replicate_succ, List.replicate_zero, List.cons_append, List.nil_append, bu_]
 refine .seq (.rgn [] (by simp only [go_sem, seval]; rfl) ?_ ?_)
 ·first | trivial | simp
 refine .seq (.rgn [] (by simp only [go_sem, seval]; rfl) ?_ ?_)
 ·first | trivial | simp
 refine .seqJ (fun q : Str => ⟨[.s q, .no, .no, .no, .b (j3_ s), .no, .no, .no, .no, .no, .no, .no, .no, .no, .no, .no, .no, .no, .no, .no, .no, .no, .no, .no, .no, .no, .no, .no, .no, .no, .no, .no, .no, .no, .no, .no, .no, .no, .no, .no, .no, .no, .no, .no, .no, .no, .no, .no, .no, .no, .no, .no, .no, .no, .no, .no, .no, .no, .no, .no, .no, .no, .no, .no, .no, .no, .no], bk_ [], us []⟩) (fun q : Str => q = dx_ s) ?_ (fun q hJ => ?_)
 ·refine .seq (.rgn [] (by simp only [go_sem, seval]; rfl) ?_ ?_)
  ·first | trivial | simp
  refine .condB (by simp only [go_sem, seval]; rfl) (by simp only [go_sem, seval]) (fun h15 => ?_) (fun h15 => ?_)
  ·refine .rgn [] (by simp only [go_sem, seval]; rfl) ?_ ?_
   ·rw [T5_] at h15; have h0 := of_decide_eq_true h15.1; omega
   refine Exists.intro (s.drop 1) ⟨?_, ?_⟩
   ·rw [ku_] at h15; unfold dx_ j3_; rw [h15]; simp
   exact Can.weak (Weak.lit (by simp only [go_sem, seval, ay_, leV, aw_, ax_, V.inn, us, T9_, Ta_] <;> (first | (refine ⟨by simp [T1_], ?_⟩; rw [ku_]; rfl) | (rw [ku_]; rfl))) (by simp only [go_sem, seval, ay_, leV, aw_, ax_, V.inn, us, T9_, Ta_]) (by simp only [go_sem, seval, ay_, leV, aw_, ax_, V.inn, us, T9_, Ta_]))
  ·refine .skip ?_
   refine Exists.intro (s) ⟨?_, ?_⟩
   ·rw [ku_] at h15; unfold dx_ j3_; rw [h15]; simp
   exact Can.weak (Weak.lit (by simp only [go_sem, seval, ay_, leV, aw_, ax_, V.inn, us, T9_, Ta_] <;> (first | (refine ⟨by simp [T1_], ?_⟩; rw [ku_]; rfl) | (rw [ku_]; rfl))) (by simp only [go_sem, seval, ay_, leV, aw_, ax_, V.inn, us, T9_, Ta_]) (by simp only [go_sem, seval, ay_, leV, aw_, ax_, V.inn, us, T9_, Ta_]))
 refine .seq (.seq (.rgn [] (by simp only [go_sem, seval]; rfl) ?_ ?_))
 ·refine ⟨⟨⟨⟨fun h => by rw [h]; rfl, fun h => ⟨h, by simp only [Bool.not_eq_true', Bool.or_eq_false_iff, beq_eq_false_iff_ne] at h; have := h.1; omega⟩⟩, fun h => ⟨h, fun h2 => by rw [h, h2]; rfl⟩⟩, fun h => ⟨h, fun h2 => by rw [h, h2]; rfl⟩⟩, fun h => by rw [h]; rfl⟩
 refine .condB (by simp only [go_sem, seval]; rfl) (by simp only [go_sem, seval]) (fun h38 => ?_) (fun h38 => ?_)
 ·refine .seq (.rgn [] (by simp only [go_sem, seval]; rfl) ?_ ?_)
  ·first | trivial | simp
  refine .ret ⟨.inr rfl, ?_⟩
  exact Out.plain (by simp only [Tryz.results236]; rfl) (by simp only [bd_, bo_, go_sem, seval] <;> (split <;> rfl)) (by simp only [bn_, go_sem, seval] <;> (subst hJ; rw [zh_ h38])) (by simp only [go_sem, seval])
 ·refine .skip (.seq (.rgn [] (by simp only [go_sem, seval]; rfl) ?_ ?_))
  ·first | trivial | simp
  refine .seq (.seq (.rgn [] (by simp only [go_sem, seval]; rfl) ?_ ?_))
  ·first | trivial | simp
  refine .block (.loopK (fun k : Nat => ⟨[.s q, .no, .no, .no, .b (j3_ s), .i .i64 (cp_ (q.take k)), .i .i64 k, .no, .no, .no, .no, .no, .no, .no, .no, .no, .no, .no, .no, .no, .no, .no, .no, .no, .no, .no, .no, .no, .no, .no, .no, .no, .no, .no, .no, .no, .no, .no, .no, .no, .no, .no, .no, .no, .no, .no, .no, .no, .no, .no, .no, .no, .no, .no, .no, .no, .no, .no, .no, .no, .no, .no, .no, .no, .no, .no, .no], bk_ [], us []⟩) (fun k : Nat => k ≤ q.length ∧ q.length ≤ 17 ∧ (q.take k).all de_ = true) (fun k : Nat => q.length - k) (0) ?_ ?_ (fun k hI => ?_))
  ·subst hJ; exact ⟨Nat.zero_le _, (qq_ h38).1, by simp⟩
  ·exact Can.weak (Weak.lit (by simp only [go_sem, seval, ay_, leV, aw_, ax_, V.inn, us, T9_, Ta_] <;> (simp [cp_])) (by simp only [go_sem, seval, ay_, leV, aw_, ax_, V.inn, us, T9_, Ta_]) (by simp only [go_sem, seval, ay_, leV, aw_, ax_, V.inn, us, T9_, Ta_]))
  refine .seq (.seq (.rgn [] (by simp only [go_sem, seval]; rfl) ?_ ?_))
  ·first | trivial | simp
  refine .condB (by simp only [go_sem, seval]; rfl) (by simp only [go_sem, seval]) (fun h42 => ?_) (fun h42 => ?_)
  ·refine .skip (.seq (.block (.seq (.seq (.rgn [] (by simp only [go_sem, seval]; rfl) ?_ ?_)))))
   ·simp only [T3_] at h42; exact ⟨⟨⟨by omega, by omega⟩, fun h => ⟨h, by omega, by omega⟩⟩, fun h => by rw [h]; rfl⟩
   refine .condB (by simp only [go_sem, seval]; rfl) (by simp only [go_sem, seval]) (fun h54 => ?_) (fun h54 => ?_)
   ·refine .seq (.rgn [] (by simp only [go_sem, seval]; rfl) ?_ ?_)
    ·first | trivial | simp
    refine .ret ⟨.inr rfl, ?_⟩
    exact Out.plain (by simp only [Tryz.results236]; rfl) (by simp only [bd_, bo_, go_sem, seval] <;> (split <;> rfl)) (by simp only [bn_, go_sem, seval] <;> (subst hJ; simp only [T3_] at h42; rw [(qq_ h38).2, if_neg]; intro h; have := List.all_eq_true.1 h _ (b3_ (d := 0) (show k < (dx_ s).length by omega)); rw [ahc_ h54] at this; cases this)) (by simp only [go_sem, seval])
   ·refine .skip (.rgn [] (by simp only [go_sem, seval]; rfl) ?_ ?_)
    ·simp only [T3_] at h42; exact ⟨by omega, by omega⟩
    refine .rgn [] (by simp only [go_sem, seval]; rfl) ?_ ?_
    ·first | trivial | simp
    refine Exists.intro (k + 1) ⟨?_, ?_, ?_⟩
    ·simp only [T3_] at h42; exact ⟨by omega, hI.2.1, by rw [ajx_ (by omega), hI.2.2, (sq_ h54).1]; rfl⟩
    ·simp at h42; omega
    exact Can.weak (Weak.lit (by simp only [go_sem, seval, ay_, leV, aw_, ax_, V.inn, us, T9_, Ta_] <;> ((simp only [T3_] at h42); (have hb := agq_ hI.1 hI.2.1 hI.2.2); (have hd := sq_ h54); rw [al7_ (by omega) (by omega), bx_ (show -9223372036854775808 ≤ (((q.getD k 0).toNat : Int) - 48) by omega) (by omega), bx_ (show -9223372036854775808 ≤ ((cp_ (q.take k) : Int) * 10) by omega) (by omega), bx_ (by omega) (by omega), bx_ (by omega) (by omega), aev_ (show k < q.length by omega)]; omega)) (by simp only [go_sem, seval, ay_, leV, aw_, ax_, V.inn, us, T9_, Ta_]) (by simp only [go_sem, seval, ay_, leV, aw_, ax_, V.inn, us, T9_, Ta_]))
  ·refine .exit (.seqJ (fun v : Int => ⟨[.no, .no, .no, .no, .no, .i .i64 v, .no, .no, .no, .no, .no, .no, .no, .no, .no, .no, .no, .no, .no, .no, .no, .no, .no, .no, .no, .no, .no, .no, .no, .no, .no, .no, .no, .no, .no, .no, .no, .no, .no, .no, .no, .no, .no, .no, .no, .no, .no, .no, .no, .no, .no, .no, .no, .no, .no, .no, .no, .no, .no, .no, .no, .no, .no, .no, .no, .no, .no], bk_ [], us []⟩) (fun v : Int => v = (if j3_ s then -(cp_ q : Int) else cp_ q) ∧ q.all de_ = true) ?_ (fun v hJ => ?_))
   ·refine .seq (.rgn [] (by simp only [go_sem, seval]; rfl) ?_ ?_)
    ·first | trivial | simp
    refine .condB (by simp only [go_sem, seval]; rfl) (by simp only [go_sem, seval]) (fun h63 => ?_) (fun h63 => ?_)
    ·refine .rgn [] (by simp only [go_sem, seval]; rfl) ?_ ?_
     ·first | trivial | simp
     refine Exists.intro (-(cp_ q : Int)) ⟨?_, ?_⟩
     ·simp only [T4_] at h42; (have h2 := hI.2.2); rw [T1_ (by omega)] at h2; rw [h63]; exact ⟨by simp, h2⟩
     exact Can.weak (Weak.lit (by simp only [go_sem, seval, ay_, leV, aw_, ax_, V.inn, us, T9_, Ta_] <;> ((simp only [T4_] at h42); (have hb := agq_ hI.1 hI.2.1 hI.2.2); rw [T1_ (by omega)] at hb ⊢; (try first | (rw [bx_ (by omega) (by omega)] <;> omega) | rfl))) (by simp only [go_sem, seval, ay_, leV, aw_, ax_, V.inn, us, T9_, Ta_]) (by simp only [go_sem, seval, ay_, leV, aw_, ax_, V.inn, us, T9_, Ta_]))
    ·refine .skip ?_
     refine Exists.intro ((cp_ q : Int)) ⟨?_, ?_⟩
     ·simp only [T4_] at h42; (have h2 := hI.2.2); rw [T1_ (by omega)] at h2; rw [h63]; exact ⟨by simp, h2⟩
     exact Can.weak (Weak.lit (by simp only [go_sem, seval, ay_, leV, aw_, ax_, V.inn, us, T9_, Ta_] <;> ((simp only [T4_] at h42); (have hb := agq_ hI.1 hI.2.1 hI.2.2); rw [T1_ (by omega)] at hb ⊢; (try first | (rw [bx_ (by omega) (by omega)] <;> omega) | rfl))) (by simp only [go_sem, seval, ay_, leV, aw_, ax_, V.inn, us, T9_, Ta_]) (by simp only [go_sem, seval, ay_, leV, aw_, ax_, V.inn, us, T9_, Ta_]))
   refine .seq (.rgn [] (by simp only [go_sem, seval]; rfl) ?_ ?_)
   ·first | trivial | simp
   refine .ret ⟨.inr rfl, ?_⟩
   exact Out.plain (by simp only [Tryz.results236]; rfl) (by simp only [bd_, bo_, go_sem, seval] <;> (split <;> rfl)) (by simp only [bn_, go_sem, seval] <;> (obtain ⟨j1, j2⟩ := hJ; (have e : q = dx_ s := (by assumption)); subst e; rw [(qq_ h38).2, if_pos j2, ← j1])) (by simp only [go_sem, seval])
theorem aa6_ (s : Str) (hs : s.length ≤ 281474976710656) : ACall En 222 [.s s] [] [.b (do_ s)] [] := by
 have h := (xr_ s).1
 refine ao_ (fn := Tryz.f222) [] Tryz.func222 rfl rfl (by simp) fun C => ?_
 rw [bb_]
 simp only [Tryz.ntmps222, T7_, List.length_nil, Nat.reduceAdd, Nat.reduceSub, List.replicate_succ, List.replicate_zero, List.cons_append, List.nil_append, bu_]
 refine .seq (.rgn [] (by simp only [go_sem, seval]; rfl) ?_ ?_)
 ·first | trivial | simp
 refine .seq (.rgn [bj_ (xm_ s hs)] (by simp only [go_sem, seval]; rfl) ?_ ?_)
 ·first | trivial | simp
 refine .seq (.rgn [] (by simp only [go_sem, seval]; rfl) ?_ ?_)
 ·first | trivial | simp
 refine .ret ⟨.inr rfl, ?_⟩
 exact Out.plain (by simp only [Tryz.results222]; rfl) (by simp only [bd_, bo_, go_sem, seval] <;> (split <;> rfl)) (by simp only [bn_, go_sem, seval] <;> (rw [← h]; simp [Bool.and_assoc])) (by simp only [go_sem, seval])
theorem te_ : ACall En 221 [] [] [.s marks] [] := by
 refine ao_ (fn := Tryz.f221) [] Tryz.func221 rfl rfl (by simp) fun C => ?_
 rw [bb_]
 simp only [Tryz.ntmps221, T7_, List.length_nil, Nat.reduceAdd, Nat.reduceSub, List.replicate_succ, List.replicate_zero, List.cons_append, List.nil_append, bu_]
 refine .seq (.rgn [] (by simp only [go_sem, seval]; rfl) ?_ ?_)
 ·first | trivial | simp
 refine .seq (.rgn [] (by simp only [go_sem, seval]; rfl) ?_ ?_)
 ·first | trivial | simp
 refine .ret ⟨.inr rfl, ?_⟩
 exact Out.plain (by simp only [Tryz.results221]; rfl) (by simp only [bd_, bo_, go_sem, seval] <;> (split <;> rfl)) (by simp only [bn_, go_sem, seval] <;> (rfl)) (by simp only [go_sem, seval])
theorem sy_ (s : Str) (c : UInt8) (hs : s.length ≤ 281474976710656) : ACall En 220 [.s s, .i .u8 c.toNat] [] [.i .i64 (Lib.indexByte s c)] [] := by
 refine ao_ (fn := Tryz.f220) [] Tryz.func220 rfl rfl (by simp) fun C => ?_
 rw [bb_]
 simp only [Tryz.ntmps220, T7_, List.length_nil, Nat.reduceAdd, Nat.reduceSub, List.replicate_succ, List.replicate_zero, List.cons_append, List.nil_append, bu_]
 refine .seq (.rgn [] (by simp only [go_sem, seval]; rfl) ?_ ?_)
 ·(first | trivial | (simp; done) | (simp at h9; simp; omega))
 refine .seq (.seq (.rgn [] (by simp only [go_sem, seval]; rfl) ?_ ?_))
 ·(first | trivial | (simp; done) | (simp at h9; simp; omega))
 refine .block (.loopK (fun k : Nat => ⟨[.s s, .i .u8 c.toNat, .no, .no, .no, .i .i64 k, .no, .no, .no, .no, .no, .no, .no, .no, .no, .no, .no, .no], bk_ [], us []⟩) (fun k : Nat => k ≤ s.length ∧ c ∉ s.take k) (fun k : Nat => s.length - k) (0) ?_ ?_ (fun k hI => ?_))
 ·simp
 ·exact Can.weak (Weak.lit (by simp only [go_sem, seval, ay_, leV, aw_, ax_, V.inn, us, T9_, Ta_] <;> ((try simp))) (by simp only [go_sem, seval, ay_, leV, aw_, ax_, V.inn, us, T9_, Ta_]) (by simp only [go_sem, seval, ay_, leV, aw_, ax_, V.inn, us, T9_, Ta_]))
 refine .seq (.seq (.rgn [] (by simp only [go_sem, seval]; rfl) ?_ ?_))
 ·(first | trivial | (simp; done) | (simp at h9; simp; omega))
 refine .condB (by simp only [go_sem, seval]; rfl) (by simp only [go_sem, seval]) (fun h9 => ?_) (fun h9 => ?_)
 ·refine .skip (.seq (.block (.seq (.rgn [] (by simp only [go_sem, seval]; rfl) ?_ ?_))))
  ·(first | trivial | (simp; done) | (simp at h9; simp; omega))
  refine .condB (by simp only [go_sem, seval]; rfl) (by simp only [go_sem, seval]) (fun h16 => ?_) (fun h16 => ?_)
  ·refine .seq (.rgn [] (by simp only [go_sem, seval]; rfl) ?_ ?_)
   ·(first | trivial | (simp; done) | (simp at h9; simp; omega))
   refine .ret ⟨.inr rfl, ?_⟩
   exact Out.plain (by simp only [Tryz.results220]; rfl) (by simp only [bd_, bo_, go_sem, seval] <;> (split <;> rfl)) (by simp only [bn_, go_sem, seval] <;> (simp only [T3_] at h9; rw [aar_ c s k (by omega) hI.2 (ai1_ h16)])) (by simp only [go_sem, seval])
  ·refine .skip (.rgn [] (by simp only [go_sem, seval]; rfl) ?_ ?_)
   ·(first | trivial | (simp; done) | (simp at h9; simp; omega))
   refine Exists.intro (k + 1) ⟨?_, ?_, ?_⟩
   ·simp only [T3_] at h9; exact ⟨by omega, ahn_ (by omega) hI.2 (ah0_ h16)⟩
   ·simp at h9; omega
   exact Can.weak (Weak.lit (by simp only [go_sem, seval, ay_, leV, aw_, ax_, V.inn, us, T9_, Ta_] <;> (rw [bx_ (by simp at h9; omega) (by simp at h9; omega)]; simp)) (by simp only [go_sem, seval, ay_, leV, aw_, ax_, V.inn, us, T9_, Ta_]) (by simp only [go_sem, seval, ay_, leV, aw_, ax_, V.inn, us, T9_, Ta_]))
 ·refine .exit (.seq (.rgn [] (by simp only [go_sem, seval]; rfl) ?_ ?_))
  ·(first | trivial | (simp; done) | (simp at h9; simp; omega))
  refine .ret ⟨.inr rfl, ?_⟩
  exact Out.plain (by simp only [Tryz.results220]; rfl) (by simp only [bd_, bo_, go_sem, seval] <;> (split <;> rfl)) (by simp only [bn_, go_sem, seval] <;> (simp only [T4_] at h9; have h2 := hI.2; rw [T1_ (by omega)] at h2; rw [ajp_ c s h2])) (by simp only [go_sem, seval])
end
section
set_option maxRecDepth 100000
set_option maxHeartbeats 4000000
def dy_ (c : UInt8) : Int := if dj_ c then 1 else if de_ c then 2 else if marks.contains c then 3 else if c = 32 then 4 else 0
theorem se_ (c : UInt8) : ACall En 195 [.i .u8 c.toNat] [] [.i .i64 (dy_ c)] [] := by
 have hf : decide (Lib.indexByte marks c ≥ 0) = marks.contains c := jp_ marks c
 have h1 : (decide ((c.toNat : Int) ≥ 97) && decide ((c.toNat : Int) ≤ 122)) = dj_ c := rfl
 have h2 : (decide ((c.toNat : Int) ≥ 48) && decide ((c.toNat : Int) ≤ 57)) = de_ c := rfl
 refine ao_ (fn := Tryz.f195) [] Tryz.func195 rfl rfl (by simp) fun C => ?_
 rw [bb_]
 simp only [Tryz.ntmps195, T7_, List.length_nil, Nat.reduceAdd, Nat.reduceSub, List.replicate_succ, List.replicate_zero, List.cons_append, List.nil_append, bu_]
 refine .seq (.rgn [] (by simp only [go_sem, seval]; rfl) ?_ ?_)
 ·(first | trivial | (simp; done) | (intro h; rw [h]; rfl))
 refine .seq (.block (.seq (.rgn [] (by simp only [go_sem, seval]; rfl) ?_ ?_)))
 ·(first | trivial | (simp; done) | (intro h; rw [h]; rfl))
 refine .condB (by simp only [go_sem, seval]; rfl) (by simp only [go_sem, seval]) (fun h3 => ?_) (fun h3 => ?_)
 ·refine .seq (.rgn [] (by simp only [go_sem, seval]; rfl) ?_ ?_)
  ·(first | trivial | (simp; done) | (intro h; rw [h]; rfl))
  refine .ret ⟨.inr rfl, ?_⟩
  exact Out.plain (by simp only [Tryz.results195]; rfl) (by simp only [bd_, bo_, go_sem, seval] <;> (split <;> rfl)) (by simp only [bn_, go_sem, seval] <;> (rw [h1] at h3; unfold dy_; rw [if_pos h3])) (by simp only [go_sem, seval])
 ·refine .seq (.rgn [] (by simp only [go_sem, seval]; rfl) ?_ ?_)
  ·(first | trivial | (simp; done) | (intro h; rw [h]; rfl))
  refine .condB (by simp only [go_sem, seval]; rfl) (by simp only [go_sem, seval]) (fun h10 => ?_) (fun h10 => ?_)
  ·refine .seq (.rgn [] (by simp only [go_sem, seval]; rfl) ?_ ?_)
   ·(first | trivial | (simp; done) | (intro h; rw [h]; rfl))
   refine .ret ⟨.inr rfl, ?_⟩
   exact Out.plain (by simp only [Tryz.results195]; rfl) (by simp only [bd_, bo_, go_sem, seval] <;> (split <;> rfl)) (by simp only [bn_, go_sem, seval] <;> (rw [h1] at h3; rw [h2] at h10; unfold dy_; rw [if_neg (by simp [h3]), if_pos h10])) (by simp only [go_sem, seval])
  ·refine .seq (.rgn [bj_ te_, bj_ (sy_ marks c (by decide))] (by simp only [go_sem, seval]; rfl) ?_ ?_)
   ·(first | trivial | (simp; done) | (intro h; rw [h]; rfl))
   refine .condB (by simp only [go_sem, seval]; rfl) (by simp only [go_sem, seval]) (fun h17 => ?_) (fun h17 => ?_)
   ·refine .seq (.rgn [] (by simp only [go_sem, seval]; rfl) ?_ ?_)
    ·(first | trivial | (simp; done) | (intro h; rw [h]; rfl))
    refine .ret ⟨.inr rfl, ?_⟩
    exact Out.plain (by simp only [Tryz.results195]; rfl) (by simp only [bd_, bo_, go_sem, seval] <;> (split <;> rfl)) (by simp only [bn_, go_sem, seval] <;> (rw [h1] at h3; rw [h2] at h10; rw [hf] at h17; unfold dy_; rw [if_neg (by simp [h3]), if_neg (by simp [h10]), if_pos h17])) (by simp only [go_sem, seval])
   ·refine .seq (.rgn [] (by simp only [go_sem, seval]; rfl) ?_ ?_)
    ·(first | trivial | (simp; done) | (intro h; rw [h]; rfl))
    refine .condB (by simp only [go_sem, seval]; rfl) (by simp only [go_sem, seval]) (fun h22 => ?_) (fun h22 => ?_)
    ·refine .seq (.rgn [] (by simp only [go_sem, seval]; rfl) ?_ ?_)
     ·(first | trivial | (simp; done) | (intro h; rw [h]; rfl))
     refine .ret ⟨.inr rfl, ?_⟩
     exact Out.plain (by simp only [Tryz.results195]; rfl) (by simp only [bd_, bo_, go_sem, seval] <;> (split <;> rfl)) (by simp only [bn_, go_sem, seval] <;> (rw [h1] at h3; rw [h2] at h10; rw [hf] at h17; unfold dy_; rw [if_neg (by simp [h3]), if_neg (by simp [h10]), if_neg (by rw [h17]; decide), if_pos (by apply UInt8.toNat_inj.1; show _ = 32; simp at h22; omega)])) (by simp only [go_sem, seval])
    ·refine .skip (.seq (.rgn [] (by simp only [go_sem, seval]; rfl) ?_ ?_))
     ·(first | trivial | (simp; done) | (intro h; rw [h]; rfl))
     refine .ret ⟨.inr rfl, ?_⟩
     exact Out.plain (by simp only [Tryz.results195]; rfl) (by simp only [bd_, bo_, go_sem, seval] <;> (split <;> rfl)) (by simp only [bn_, go_sem, seval] <;> (rw [h1] at h3; rw [h2] at h10; rw [hf] at h17; unfold dy_; rw [if_neg (by simp [h3]), if_neg (by simp [h10]), if_neg (by rw [h17]; decide), if_neg (by rintro rfl; simp at h22)])) (by simp only [go_sem, seval])
def exC (c : UInt8) (l : Str) : Nat := if dy_ c < 3 then (l.takeWhile fun x => dy_ x == dy_ c).length else 0
def dv_ (l : Str) : Nat := match l with | [] => 1 | c :: r => 1 + exC c r
theorem me_ {s : Str} {k : Nat} (h : k < s.length) : s.drop k = s.getD k 0 :: s.drop (k + 1) := by
 rw [List.drop_eq_getElem_cons h, T8_, T6_ h]; rfl
theorem alx_ (c : UInt8) (l : Str) : exC c l ≤ l.length := by
 unfold exC; split
 ·exact (List.takeWhile_prefix _).length_le
 ·omega
theorem fd_ {s : Str} {k : Nat} (h : k < s.length) : 1 ≤ dv_ (s.drop k) ∧ k + dv_ (s.drop k) ≤ s.length := by
 rw [me_ h, dv_]
 have := alx_ (s.getD k 0) (s.drop (k + 1))
 rw [List.length_drop] at this
 omega
theorem ak9_ {c : UInt8} {s : Str} {j : Nat} (h : j < s.length) (h1 : dy_ c < 3) (h2 : dy_ (s.getD j 0) = dy_ c) : exC c (s.drop j) = 1 + exC c (s.drop (j + 1)) := by
 unfold exC
 rw [if_pos h1, if_pos h1, me_ h, List.takeWhile_cons, if_pos (by rw [h2]; exact beq_self_eq_true _)]
 simp; omega
theorem aei_ {c : UInt8} {s : Str} {j : Nat} (h : ¬ (j < s.length ∧ dy_ c < 3 ∧ dy_ (s.getD j 0) = dy_ c)) : exC c (s.drop j) = 0 := by
 unfold exC
 split
 ·rename_i h1
  rcases Nat.lt_or_ge j s.length with q | q
  ·rw [me_ q, List.takeWhile_cons, if_neg (by simp; exact fun e => h ⟨q, h1, e⟩)]; rfl
  ·rw [List.drop_of_length_le q]; rfl
 ·rfl
theorem aja_ (s : Str) (k : Nat) (hk : k < s.length) (hs : s.length ≤ 1000000) : ACall En 150 [.s s, .i .i64 k] [] [.i .i64 ((k + dv_ (s.drop k) : Nat) : Int)] [] := by
 have hE : dv_ (s.drop k) = 1 + exC (s.getD k 0) (s.drop (k + 1)) := by rw [me_ hk]; rfl
 refine ao_ (fn := Tryz.f150) [] Tryz.func150 rfl rfl (by simp) fun C => ?_
 rw [bb_]
 simp only [Tryz.ntmps150, T7_, List.length_nil, Nat.reduceAdd, Nat.reduceSub, List.replicate_succ, List.replicate_zero, List.cons_append, List.nil_append, bu_]
 refine .seq (.rgn [] (by simp only [go_sem, seval]; rfl) ?_ ?_)
 ·first | trivial | simp
 refine .seq (.rgn [bj_ (se_ (s.getD k 0))] (by simp only [go_sem, seval]; rfl) ?_ ?_)
 ·exact ⟨by omega, by omega⟩
 refine .seq (.rgn [] (by simp only [go_sem, seval]; rfl) ?_ ?_)
 ·first | trivial | simp
 refine .seq (.block (.loopK (fun j : Nat => ⟨[.s s, .no, .no, .no, .no, .i .i64 (dy_ (s.getD k 0)), .i .i64 j, .no, .no, .no, .no, .no, .no, .no, .no, .no, .no, .no, .no, .no, .no, .no, .no, .no, .no, .no, .no, .no, .no, .no, .no, .no], bk_ [], us []⟩) (fun j : Nat => k + 1 ≤ j ∧ j ≤ s.length ∧ k + 1 + exC (s.getD k 0) (s.drop (k + 1)) = j + exC (s.getD k 0) (s.drop j)) (fun j : Nat => s.length - j) (k + 1) ?_ ?_ (fun j hI => ?_)))
 ·exact ⟨Nat.le_refl _, hk, rfl⟩
 ·exact Can.weak (Weak.lit (by simp only [go_sem, seval, ay_, leV, aw_, ax_, V.inn, us, T9_, Ta_] <;> (rw [bx_ (by omega) (by omega)]; simp)) (by simp only [go_sem, seval, ay_, leV, aw_, ax_, V.inn, us, T9_, Ta_]) (by simp only [go_sem, seval, ay_, leV, aw_, ax_, V.inn, us, T9_, Ta_]))
 refine .seq (.seq (.rgn [dc_ (j < s.length) (fun _ => se_ (s.getD j 0))] (by simp only [go_sem, seval]; rfl) ?_ ?_))
 ·exact ⟨fun h => ⟨h, by omega, by rw [T5_] at h; exact of_decide_eq_true h.1⟩, fun h => ⟨h, by rw [T5_] at h; have h0 := of_decide_eq_true h.1; omega⟩⟩
 refine .condB (by simp only [go_sem, seval]; rfl) (by simp only [go_sem, seval]) (fun h28 => ?_) (fun h28 => ?_)
 ·refine .skip (.block (.rgn [] (by simp only [go_sem, seval]; rfl) ?_ ?_))
  ·first | trivial | simp
  refine Exists.intro (j + 1) ⟨?_, ?_, ?_⟩
  ·rw [T5_, T5_] at h28; have a := of_decide_eq_true h28.1.1; have b := of_decide_eq_true h28.1.2; have c := beq_iff_eq.1 h28.2; have e := ak9_ (show j < s.length by omega) b c; exact ⟨by omega, by omega, by omega⟩
  ·rw [T5_, T5_] at h28; have a := of_decide_eq_true h28.1.1; omega
  exact Can.weak (Weak.lit (by simp only [go_sem, seval, ay_, leV, aw_, ax_, V.inn, us, T9_, Ta_] <;> (rw [bx_ (by omega) (by omega)]; simp)) (by simp only [go_sem, seval, ay_, leV, aw_, ax_, V.inn, us, T9_, Ta_]) (by simp only [go_sem, seval, ay_, leV, aw_, ax_, V.inn, us, T9_, Ta_]))
 ·refine .exit (.seq (.rgn [] (by simp only [go_sem, seval]; rfl) ?_ ?_))
  ·first | trivial | simp
  refine .ret ⟨.inr rfl, ?_⟩
  exact Out.plain (by simp only [Tryz.results150]; rfl) (by simp only [bd_, bo_, go_sem, seval] <;> (split <;> rfl)) (by simp only [bn_, go_sem, seval] <;> ((have e := aei_ (c := s.getD k 0) (s := s) (j := j) (fun q => by rw [decide_eq_true (show (j : Int) < s.length by omega), decide_eq_true q.2.1, q.2.2] at h28; simp at h28)); rw [hE, show k + (1 + exC (s.getD k 0) (s.drop (k + 1))) = j by omega])) (by simp only [go_sem, seval])
theorem acp_ (s : Str) : (((s.length : Int) == 1) && decide (Lib.indexByte marks (s.getD 0 0) ≥ 0)) = fq_ s := by
 unfold fq_
 rw [show decide (Lib.indexByte marks (s.getD 0 0) ≥ 0) = marks.contains (s.getD 0 0) from jp_ marks _]
 congr 1
 ·rw [Bool.eq_iff_iff]; simp; omega
 ·cases s <;> rfl
def lk_ (k : Int) (s : Str) : Bool := if k = 1 then fe_ s else if k = 2 then do_ s else if k = 3 then fq_ s else false
theorem agc_ (k : Int) (s : Str) (hs : s.length ≤ 281474976710656) : ACall En 196 [.i .i64 k, .s s] [] [.b (lk_ k s)] [] := by
 refine ao_ (fn := Tryz.f196) [] Tryz.func196 rfl rfl (by simp) fun C => ?_
 rw [bb_]
 simp only [Tryz.ntmps196, T7_, List.length_nil, Nat.reduceAdd, Nat.reduceSub, List.replicate_succ, List.replicate_zero, List.cons_append, List.nil_append, bu_]
 refine .seq (.rgn [] (by simp only [go_sem, seval]; rfl) ?_ ?_)
 ·first | trivial | simp
 refine .seq (.seq (.rgn [] (by simp only [go_sem, seval]; rfl) ?_ ?_))
 ·first | trivial | simp
 refine .block (.seq (.rgn [] (by simp only [go_sem, seval]; rfl) ?_ ?_))
 ·first | trivial | simp
 refine .condB (by simp only [go_sem, seval]; rfl) (by simp only [go_sem, seval]) (fun h6 => ?_) (fun h6 => ?_)
 ·refine .seq (.rgn [bj_ (xq_ s (by omega))] (by simp only [go_sem, seval]; rfl) ?_ ?_)
  ·first | trivial | simp
  refine .ret ⟨.inr rfl, ?_⟩
  exact Out.plain (by simp only [Tryz.results196]; rfl) (by simp only [bd_, bo_, go_sem, seval] <;> (split <;> rfl)) (by simp only [bn_, go_sem, seval] <;> (simp at h6; simp [lk_, h6])) (by simp only [go_sem, seval])
 ·refine .seq (.rgn [] (by simp only [go_sem, seval]; rfl) ?_ ?_)
  ·first | trivial | simp
  refine .condB (by simp only [go_sem, seval]; rfl) (by simp only [go_sem, seval]) (fun h10 => ?_) (fun h10 => ?_)
  ·refine .seq (.rgn [bj_ (aa6_ s hs)] (by simp only [go_sem, seval]; rfl) ?_ ?_)
   ·first | trivial | simp
   refine .ret ⟨.inr rfl, ?_⟩
   exact Out.plain (by simp only [Tryz.results196]; rfl) (by simp only [bd_, bo_, go_sem, seval] <;> (split <;> rfl)) (by simp only [bn_, go_sem, seval] <;> (simp at h6 h10; simp [lk_, h10])) (by simp only [go_sem, seval])
  ·refine .seq (.rgn [] (by simp only [go_sem, seval]; rfl) ?_ ?_)
   ·first | trivial | simp
   refine .condB (by simp only [go_sem, seval]; rfl) (by simp only [go_sem, seval]) (fun h14 => ?_) (fun h14 => ?_)
   ·refine .seq (.rgnD [bj_ te_, dc_ (0 < s.length) (fun _ => sy_ marks (s.getD 0 0) (by decide))] enM (by simp only [go_sem, seval]; rfl) (by rfl) ?_ ?_)
    ·exact ⟨fun h => ⟨h, by have := beq_iff_eq.1 h; omega⟩, fun h => ⟨h, by have := beq_iff_eq.1 h; omega⟩⟩
    refine .ret ⟨.inr rfl, ?_⟩
    exact Out.plain (by simp only [Tryz.results196]; rfl) (by simp only [bd_, bo_, go_sem, seval] <;> (split <;> rfl)) (by simp only [bn_, go_sem, seval] <;> (simp at h6 h10 h14; simp [lk_, h14]; rw [← acp_]; simp)) (by simp only [go_sem, seval])
   ·refine .skip (.seq (.rgn [] (by simp only [go_sem, seval]; rfl) ?_ ?_))
    ·first | trivial | simp
    refine .ret ⟨.inr rfl, ?_⟩
    exact Out.plain (by simp only [Tryz.results196]; rfl) (by simp only [bd_, bo_, go_sem, seval] <;> (split <;> rfl)) (by simp only [bn_, go_sem, seval] <;> (simp at h6 h10 h14; simp [lk_, h6, h10, h14])) (by simp only [go_sem, seval])
theorem zc_ (s : Str) (hs : s.length ≤ 281474976710656) : ACall En 151 [.s s] [] [.i .i64 (dt_ s)] [] := by
 refine ao_ (fn := Tryz.f151) [] Tryz.func151 rfl rfl (by simp) fun C => ?_
 rw [bb_]
 simp only [Tryz.ntmps151, T7_, List.length_nil, Nat.reduceAdd, Nat.reduceSub, List.replicate_succ, List.replicate_zero, List.cons_append, List.nil_append, bu_]
 refine .seq (.rgn [] (by simp only [go_sem, seval]; rfl) ?_ ?_)
 ·first | trivial | simp
 refine .seq (.seq (.rgn [] (by simp only [go_sem, seval]; rfl) ?_ ?_))
 ·first | trivial | simp
 refine .block (.loopK (fun k : Nat => ⟨[.s s, .no, .no, .i .i64 k, .no, .no, .no, .no, .no, .no, .no, .no], bk_ [], us []⟩) (fun k : Nat => 1 ≤ k ∧ k ≤ 4 ∧ (2 ≤ k → fe_ s = false) ∧ (3 ≤ k → do_ s = false) ∧ (4 ≤ k → fq_ s = false)) (fun k : Nat => 4 - k) (1) ?_ ?_ (fun k hI => ?_))
 ·exact ⟨by decide, by decide, fun h => by omega, fun h => by omega, fun h => by omega⟩
 ·exact Can.weak (Weak.lit (by simp only [go_sem, seval, ay_, leV, aw_, ax_, V.inn, us, T9_, Ta_] <;> (rfl)) (by simp only [go_sem, seval, ay_, leV, aw_, ax_, V.inn, us, T9_, Ta_]) (by simp only [go_sem, seval, ay_, leV, aw_, ax_, V.inn, us, T9_, Ta_]))
 refine .seq (.seq (.rgn [] (by simp only [go_sem, seval]; rfl) ?_ ?_))
 ·first | trivial | simp
 refine .condB (by simp only [go_sem, seval]; rfl) (by simp only [go_sem, seval]) (fun h5 => ?_) (fun h5 => ?_)
 ·refine .skip (.seq (.block (.seq (.rgn [bj_ (agc_ k s hs)] (by simp only [go_sem, seval]; rfl) ?_ ?_))))
  ·first | trivial | simp
  refine .condB (by simp only [go_sem, seval]; rfl) (by simp only [go_sem, seval]) (fun h10 => ?_) (fun h10 => ?_)
  ·refine .seq (.rgn [] (by simp only [go_sem, seval]; rfl) ?_ ?_)
   ·first | trivial | simp
   refine .ret ⟨.inr rfl, ?_⟩
   exact Out.plain (by simp only [Tryz.results151]; rfl) (by simp only [bd_, bo_, go_sem, seval] <;> (split <;> rfl)) (by simp only [bn_, go_sem, seval] <;> (simp only [T3_] at h5; unfold dt_; rcases (show k = 1 ∨ k = 2 ∨ k = 3 by omega) with e | e | e <;> subst e <;> simp [lk_] at h10; (simp [h10]); (simp [h10, hI.2.2.1 (by omega)]); (simp [h10, hI.2.2.1 (by omega), hI.2.2.2.1 (by omega)]))) (by simp only [go_sem, seval])
  ·refine .skip (.rgn [] (by simp only [go_sem, seval]; rfl) ?_ ?_)
   ·first | trivial | simp
   refine Exists.intro (k + 1) ⟨?_, ?_, ?_⟩
   ·simp only [T3_] at h5; rcases (show k = 1 ∨ k = 2 ∨ k = 3 by omega) with e | e | e <;> subst e <;> simp [lk_] at h10; exact ⟨by omega, by omega, fun _ => h10, fun h => by omega, fun h => by omega⟩; exact ⟨by omega, by omega, fun _ => hI.2.2.1 (by omega), fun _ => h10, fun h => by omega⟩; exact ⟨by omega, by omega, fun _ => hI.2.2.1 (by omega), fun _ => hI.2.2.2.1 (by omega), fun _ => h10⟩
   ·simp at h5; omega
   exact Can.weak (Weak.lit (by simp only [go_sem, seval, ay_, leV, aw_, ax_, V.inn, us, T9_, Ta_] <;> (rw [bx_ (by omega) (by omega)]; simp)) (by simp only [go_sem, seval, ay_, leV, aw_, ax_, V.inn, us, T9_, Ta_]) (by simp only [go_sem, seval, ay_, leV, aw_, ax_, V.inn, us, T9_, Ta_]))
 ·refine .exit (.seq (.rgn [] (by simp only [go_sem, seval]; rfl) ?_ ?_))
  ·first | trivial | simp
  refine .ret ⟨.inr rfl, ?_⟩
  exact Out.plain (by simp only [Tryz.results151]; rfl) (by simp only [bd_, bo_, go_sem, seval] <;> (split <;> rfl)) (by simp only [bn_, go_sem, seval] <;> (simp only [T4_] at h5; unfold dt_; simp [hI.2.2.1 (by omega), hI.2.2.2.1 (by omega), hI.2.2.2.2 (by omega)])) (by simp only [go_sem, seval])
theorem xt_ {c : UInt8} : (dy_ c == 1) = dj_ c := by
 unfold dy_
 cases h : dj_ c with
 | true => rfl
 | false => simp only [Bool.false_eq_true, if_false]; split <;> (try split) <;> (try split) <;> rfl
theorem v4_ {c : UInt8} : (dy_ c == 2) = de_ c := by
 unfold dy_
 cases h : dj_ c with
 | true => rw [hc_ h]; rfl
 | false =>
  simp only [Bool.false_eq_true, if_false]
  cases de_ c with
  | true => rfl
  | false => simp only [Bool.false_eq_true, if_false]; split <;> (try split) <;> rfl
theorem aea_ {c : UInt8} {l : Str} (h : dy_ c ≠ 0) (h4 : c ≠ 32) : dv_ (c :: l) = er_ (c :: l) := by
 show 1 + (if dy_ c < 3 then (l.takeWhile fun x => dy_ x == dy_ c).length else 0) = max 1 (max ((c :: l).takeWhile dj_).length ((c :: l).takeWhile de_).length)
 cases hl : dj_ c with
 | true =>
  have e : dy_ c = 1 := by unfold dy_; rw [if_pos hl]
  rw [e, if_pos (by decide), li_ (hc_ hl), List.takeWhile_cons, if_pos hl]
  have : (fun x => dy_ x == 1) = dj_ := funext fun x => xt_
  rw [this]; simp; omega
 | false =>
  rw [li_ (p := dj_) hl]
  cases hd : de_ c with
  | true =>
   have e : dy_ c = 2 := by unfold dy_; rw [if_neg (by simp [hl]), if_pos hd]
   rw [e, if_pos (by decide), List.takeWhile_cons, if_pos hd]
   have : (fun x => dy_ x == 2) = de_ := funext fun x => v4_
   rw [this]; simp; omega
  | false =>
   rw [li_ hd]
   have e : ¬ dy_ c < 3 := by
    unfold dy_ at h ⊢
    rw [if_neg (by simp [hl]), if_neg (by simp [hd])] at h ⊢
    split
    ·decide
    ·rename_i hm; rw [if_neg hm, if_neg h4] at h; exact absurd rfl h
   rw [if_neg e]; rfl
theorem abv_ {c : UInt8} {l : Str} (h : dy_ c = 0) : dt_ (c :: l) = 0 := by
 unfold dy_ at h
 have hl : dj_ c = false := by
  cases q : dj_ c with
  | true => rw [q] at h; simp at h
  | false => rfl
 have hd : de_ c = false := by
  cases q : de_ c with
  | true => rw [hl, q] at h; simp at h
  | false => rfl
 have hm : marks.contains c = false := by
  cases q : marks.contains c with
  | true => rw [hl, hd, q] at h; simp at h
  | false => rfl
 unfold dt_
 rw [if_neg, if_neg, if_neg]
 ·intro q; simp only [fq_, T5_, List.headD_cons] at q; rw [hm] at q; exact absurd q.2 (by decide)
 ·intro q
  obtain ⟨n, _, e⟩ := ed_.1 q
  have := (ki_ c).2 (d5_ n c (by rw [← e]; simp))
  rw [hd] at this; cases this
 ·intro q; simp [fe_, hl] at q
theorem pt_ {l : Str} {k : Nat} (h : k < l.length) (col : Int) : ft_ (l.drop k).length (l.drop k) col =
  if l.getD k 0 = 32 then ft_ (l.drop (k + dv_ (l.drop k))).length (l.drop (k + dv_ (l.drop k))) (col + dv_ (l.drop k))
  else if dt_ ((l.drop k).take (dv_ (l.drop k))) = 0 then none
  else (ft_ (l.drop (k + dv_ (l.drop k))).length (l.drop (k + dv_ (l.drop k))) (col + dv_ (l.drop k))).map (⟨dt_ ((l.drop k).take (dv_ (l.drop k))), (l.drop k).take (dv_ (l.drop k)), col⟩ :: ·) := by
 rw [pe_ h]
 have hd := me_ h
 by_cases h32 : l.getD k 0 = 32
 ·have e : dv_ (l.drop k) = 1 := by
   rw [hd, dv_, h32]; rfl
  rw [if_pos h32, if_pos h32, e]; rfl
 ·rw [if_neg h32, if_neg h32]
  by_cases h0 : dy_ (l.getD k 0) = 0
  ·have p : ∀ m, 1 ≤ m → dt_ ((l.drop k).take m) = 0 := fun m hm => by
    rw [hd]
    obtain ⟨m', rfl⟩ : ∃ m', m = m' + 1 := ⟨m - 1, by omega⟩
    rw [List.take_succ_cons]; exact abv_ h0
   rw [if_pos (p _ (wl_b h).1), if_pos (p _ (fd_ h).1)]
  ·have e : dv_ (l.drop k) = er_ (l.drop k) := by rw [hd]; exact aea_ h0 h32
   rw [e]
theorem ym_ (s : Str) (hs : s.length ≤ 281474976710656) : ACall En 96 [.s s] [] [.sl false (tkR ((c0_ s).getD [])), .b (c0_ s).isSome] [] := by
 refine ao_ (fn := Tryz.f96) [] Tryz.func96 rfl rfl (by simp) fun C => ?_
 rw [bb_]
 simp only [Tryz.ntmps96, T7_, List.length_nil, Nat.reduceAdd, Nat.reduceSub, List.replicate_succ, List.replicate_zero, List.cons_append, List.nil_append, bu_]
 refine .seq (.rgn [] (by simp only [go_sem, seval, a6_, be_]; rfl) ?_ ?_)
 ·(first | trivial | (simp; done) | (simp only [T3_] at h16; have he := fd_ (show q.1 < s.length by omega); first | exact ⟨by omega, hI.2.1⟩ | exact ⟨by omega, by omega⟩ | (refine ⟨by omega, by omega, by omega, by omega, by simp⟩) | (refine ⟨⟨⟨by omega, by omega, by omega, by omega, by simp⟩, rfl⟩, ?_⟩; simp; omega)))
 refine .seq (.rgn [] (by simp only [go_sem, seval, a6_, be_]; rfl) ?_ ?_)
 ·(first | trivial | (simp; done) | (simp only [T3_] at h16; have he := fd_ (show q.1 < s.length by omega); first | exact ⟨by omega, hI.2.1⟩ | exact ⟨by omega, by omega⟩ | (refine ⟨by omega, by omega, by omega, by omega, by simp⟩) | (refine ⟨⟨⟨by omega, by omega, by omega, by omega, by simp⟩, rfl⟩, ?_⟩; simp; omega)))
 refine .seq (.seq (.rgn [] (by simp only [go_sem, seval, a6_, be_]; rfl) ?_ ?_))
 ·(first | trivial | (simp; done) | (simp only [T3_] at h16; have he := fd_ (show q.1 < s.length by omega); first | exact ⟨by omega, hI.2.1⟩ | exact ⟨by omega, by omega⟩ | (refine ⟨by omega, by omega, by omega, by omega, by simp⟩) | (refine ⟨⟨⟨by omega, by omega, by omega, by omega, by simp⟩, rfl⟩, ?_⟩; simp; omega)))
 refine .condB (by simp only [go_sem, seval, a6_, be_]; rfl) (by simp only [go_sem, seval, a6_, be_]) (fun h11 => ?_) (fun h11 => ?_)
 ·refine .seq (.rgn [] (by simp only [go_sem, seval, a6_, be_]; rfl) ?_ ?_)
  ·(first | trivial | (simp; done) | (simp only [T3_] at h16; have he := fd_ (show q.1 < s.length by omega); first | exact ⟨by omega, hI.2.1⟩ | exact ⟨by omega, by omega⟩ | (refine ⟨by omega, by omega, by omega, by omega, by simp⟩) | (refine ⟨⟨⟨by omega, by omega, by omega, by omega, by simp⟩, rfl⟩, ?_⟩; simp; omega)))
  refine .ret ⟨.inr rfl, ?_⟩
  exact Out.plainL (by simp only [Tryz.results96]; rfl) (by simp only [bd_, bo_, go_sem, seval, a6_, be_] <;> (split <;> rfl)) (by simp only [bn_, go_sem, seval, a6_, be_] <;> (simp only [T3_] at h11; rw [l6_ (by omega)]; simp [tkR, ler])) (by simp only [go_sem, seval, a6_, be_])
 ·refine .skip (.seq (.rgn [] (by simp only [go_sem, seval, a6_, be_]; rfl) ?_ ?_))
  ·(first | trivial | (simp; done) | (simp only [T3_] at h16; have he := fd_ (show q.1 < s.length by omega); first | exact ⟨by omega, hI.2.1⟩ | exact ⟨by omega, by omega⟩ | (refine ⟨by omega, by omega, by omega, by omega, by simp⟩) | (refine ⟨⟨⟨by omega, by omega, by omega, by omega, by simp⟩, rfl⟩, ?_⟩; simp; omega)))
  refine .seq (.block (.loopK (fun q : Nat × List Tk => ⟨[.s s, .no, .no, .no, .ow 60 3 0 q.2.length, .i .i64 q.1, .no, .no, .no, .no, .no, .no, .no, .no, .no, .no, .no, .no, .no, .no, .no, .no, .no, .no, .no, .no, .no, .no, .no, .no, .no, .no, .no, .no, .no, .no, .no, .no, .no, .no, .no, .no, .no, .no], bk_ [(60, ⟨40, 3, tkR q.2⟩)], us [60]⟩) (fun q : Nat × List Tk => q.1 ≤ s.length ∧ s.length ≤ 120 ∧ q.2.length ≤ q.1 ∧ ft_ s.length s 0 = (ft_ (s.drop q.1).length (s.drop q.1) q.1).map (q.2 ++ ·)) (fun q : Nat × List Tk => s.length - q.1) ((0, [])) ?_ ?_ (fun q hI => ?_)))
  ·simp at h11; simp; omega
  ·refine Can.trans (Can.ownSlot 4 60 40 3 (by simp only [go_sem, seval, a6_, be_] <;> rfl) (by simp only [go_sem, seval, a6_, be_]) (by simp only [go_sem, seval, a6_, be_] <;> rfl)) ?_
   exact Can.weak (Weak.lit (by simp only [go_sem, seval, a6_, be_, ay_, leV, aw_, ax_, V.inn, us, T9_, Ta_] <;> ((try simp))) (by simp only [go_sem, seval, a6_, be_, ay_, leV, aw_, ax_, V.inn, us, T9_, Ta_]) (by simp only [go_sem, seval, a6_, be_, ay_, leV, aw_, ax_, V.inn, us, T9_, Ta_] <;> (simp [tkR])))
  refine .seq (.seq (.rgn [] (by simp only [go_sem, seval, a6_, be_]; rfl) ?_ ?_))
  ·(first | trivial | (simp; done) | (simp only [T3_] at h16; have he := fd_ (show q.1 < s.length by omega); first | exact ⟨by omega, hI.2.1⟩ | exact ⟨by omega, by omega⟩ | (refine ⟨by omega, by omega, by omega, by omega, by simp⟩) | (refine ⟨⟨⟨by omega, by omega, by omega, by omega, by simp⟩, rfl⟩, ?_⟩; simp; omega)))
  refine .condB (by simp only [go_sem, seval, a6_, be_]; rfl) (by simp only [go_sem, seval, a6_, be_]) (fun h16 => ?_) (fun h16 => ?_)
  ·refine .skip (.block (.seq (.rgn [dc_ (q.1 < s.length ∧ s.length ≤ 120) (fun h => aja_ s q.1 h.1 (by omega))] (by simp only [go_sem, seval, a6_, be_]; rfl) ?_ ?_)))
   ·(first | trivial | (simp; done) | (simp only [T3_] at h16; have he := fd_ (show q.1 < s.length by omega); first | exact ⟨by omega, hI.2.1⟩ | exact ⟨by omega, by omega⟩ | (refine ⟨by omega, by omega, by omega, by omega, by simp⟩) | (refine ⟨⟨⟨by omega, by omega, by omega, by omega, by simp⟩, rfl⟩, ?_⟩; simp; omega)))
   refine .seqJ (fun p : List Tk => ⟨[.s s, .no, .no, .no, .ow 60 3 0 p.length, .no, .i .i64 ((q.1 + dv_ (s.drop q.1) : Nat) : Int), .no, .no, .no, .no, .no, .no, .no, .no, .no, .no, .no, .no, .no, .no, .no, .no, .no, .no, .no, .no, .no, .no, .no, .no, .no, .no, .no, .no, .no, .no, .no, .no, .no, .no, .no, .no, .no], bk_ [(60, ⟨40, 3, tkR p⟩)], us [60]⟩) (fun p : List Tk => p.length ≤ q.1 + 1 ∧ ft_ s.length s 0 = (ft_ (s.drop (q.1 + dv_ (s.drop q.1))).length (s.drop (q.1 + dv_ (s.drop q.1))) ((q.1 + dv_ (s.drop q.1) : Nat) : Int)).map (p ++ ·)) ?_ (fun p hJ => ?_)
   ·refine .seq (.rgn [] (by simp only [go_sem, seval, a6_, be_]; rfl) ?_ ?_)
    ·(first | trivial | (simp; done) | (simp only [T3_] at h16; have he := fd_ (show q.1 < s.length by omega); first | exact ⟨by omega, hI.2.1⟩ | exact ⟨by omega, by omega⟩ | (refine ⟨by omega, by omega, by omega, by omega, by simp⟩) | (refine ⟨⟨⟨by omega, by omega, by omega, by omega, by simp⟩, rfl⟩, ?_⟩; simp; omega)))
    refine .condB (by simp only [go_sem, seval, a6_, be_]; rfl) (by simp only [go_sem, seval, a6_, be_]) (fun h23 => ?_) (fun h23 => ?_)
    ·refine .seq (.rgn [bj_ (zc_ ((s.drop q.1).take (dv_ (s.drop q.1))) (by simp; omega))] (by simp only [go_sem, seval, a6_, be_, qv_]; rfl) ?_ ?_)
     ·(first | trivial | (simp; done) | (simp only [T3_] at h16; have he := fd_ (show q.1 < s.length by omega); first | exact ⟨by omega, hI.2.1⟩ | exact ⟨by omega, by omega⟩ | (refine ⟨by omega, by omega, by omega, by omega, by simp⟩) | (refine ⟨⟨⟨by omega, by omega, by omega, by omega, by simp⟩, rfl⟩, ?_⟩; simp; omega)))
     refine .seq (.seq (.rgn [] (by simp only [go_sem, seval, a6_, be_]; rfl) ?_ ?_))
     ·(first | trivial | (simp; done) | (simp only [T3_] at h16; have he := fd_ (show q.1 < s.length by omega); first | exact ⟨by omega, hI.2.1⟩ | exact ⟨by omega, by omega⟩ | (refine ⟨by omega, by omega, by omega, by omega, by simp⟩) | (refine ⟨⟨⟨by omega, by omega, by omega, by omega, by simp⟩, rfl⟩, ?_⟩; simp; omega)))
     refine .condB (by simp only [go_sem, seval, a6_, be_]; rfl) (by simp only [go_sem, seval, a6_, be_]) (fun h30 => ?_) (fun h30 => ?_)
     ·refine .seq (.rgn [] (by simp only [go_sem, seval, a6_, be_]; rfl) ?_ ?_)
      ·(first | trivial | (simp; done) | (simp only [T3_] at h16; have he := fd_ (show q.1 < s.length by omega); first | exact ⟨by omega, hI.2.1⟩ | exact ⟨by omega, by omega⟩ | (refine ⟨by omega, by omega, by omega, by omega, by simp⟩) | (refine ⟨⟨⟨by omega, by omega, by omega, by omega, by simp⟩, rfl⟩, ?_⟩; simp; omega)))
      refine .ret ⟨.inr rfl, ?_⟩
      exact Out.plainL (by simp only [Tryz.results96]; rfl) (by simp only [bd_, bo_, go_sem, seval, a6_, be_] <;> (split <;> rfl)) (by simp only [bn_, go_sem, seval, a6_, be_] <;> (simp only [T3_] at h16; have e := pt_ (show q.1 < s.length by omega) q.1; rw [if_neg (fun h => by have := (ia_ (by omega)).1 h; rw [this] at h23; simp at h23), if_pos (by simpa using h30)] at e; rw [hj_ hI.2.1, hI.2.2.2, e]; simp [tkR, ler])) (by simp only [go_sem, seval, a6_, be_])
     ·refine .skip (.rgn [] (by simp only [go_sem, seval, a6_, be_, qv_]; rfl) ?_ ?_)
      ·(first | trivial | (simp; done) | (simp only [T3_] at h16; have he := fd_ (show q.1 < s.length by omega); first | exact ⟨by omega, hI.2.1⟩ | exact ⟨by omega, by omega⟩ | (refine ⟨by omega, by omega, by omega, by omega, by simp⟩) | (refine ⟨⟨⟨by omega, by omega, by omega, by omega, by simp⟩, rfl⟩, ?_⟩; simp; omega)))
      refine Exists.intro (q.2 ++ [⟨dt_ ((s.drop q.1).take (dv_ (s.drop q.1))), (s.drop q.1).take (dv_ (s.drop q.1)), q.1⟩]) ⟨?_, ?_⟩
      ·simp only [T3_] at h16; obtain ⟨i1, i2, i3, i4⟩ := hI; have e := pt_ (show q.1 < s.length by omega) q.1; first | (rw [if_neg (fun h => by have := (ia_ (by omega)).1 h; rw [this] at h23; simp at h23), if_neg (by simpa using h30)] at e; exact ⟨by simp only [T2_, List.length_singleton]; omega, by rw [i4, e, Option.map_map]; simp [Function.comp_def]⟩) | (rw [if_pos ((ia_ (by omega)).2 (by simpa using h23))] at e; exact ⟨by omega, by rw [i4, e]; rfl⟩)
      refine Can.trans (Can.swap 51 60 (by decide) (by decide) (by decide) (by decide) (by simp only [go_sem, seval, a6_, be_, V.cl]) (by simp only [go_sem, seval, a6_, be_, V.cl]) (by simp only [go_sem, seval, a6_, be_, b5_, sw, swM, rnB] <;> rfl) (by simp only [go_sem, seval, a6_, be_, b5_, sw, swM, rnB] <;> rfl) (by simp only [go_sem, seval, a6_, be_, b5_, sw, swM, rnB] <;> rfl)) ?_
      exact Can.weak (Weak.lit (by simp only [go_sem, seval, a6_, be_, ay_, leV, aw_, ax_, V.inn, us, T9_, Ta_] <;> ((try simp))) (by simp only [go_sem, seval, a6_, be_, ay_, leV, aw_, ax_, V.inn, us, T9_, Ta_]) (by simp only [go_sem, seval, a6_, be_, ay_, leV, aw_, ax_, V.inn, us, T9_, Ta_] <;> ((try simp [re_]))))
    ·refine .skip ?_
     refine Exists.intro (q.2) ⟨?_, ?_⟩
     ·simp only [T3_] at h16; obtain ⟨i1, i2, i3, i4⟩ := hI; have e := pt_ (show q.1 < s.length by omega) q.1; first | (rw [if_neg (fun h => by have := (ia_ (by omega)).1 h; rw [this] at h23; simp at h23), if_neg (by simpa using h30)] at e; exact ⟨by simp only [T2_, List.length_singleton]; omega, by rw [i4, e, Option.map_map]; simp [Function.comp_def]⟩) | (rw [if_pos ((ia_ (by omega)).2 (by simpa using h23))] at e; exact ⟨by omega, by rw [i4, e]; rfl⟩)
     exact Can.weak (Weak.lit (by simp only [go_sem, seval, a6_, be_, ay_, leV, aw_, ax_, V.inn, us, T9_, Ta_] <;> ((try simp))) (by simp only [go_sem, seval, a6_, be_, ay_, leV, aw_, ax_, V.inn, us, T9_, Ta_]) (by simp only [go_sem, seval, a6_, be_, ay_, leV, aw_, ax_, V.inn, us, T9_, Ta_] <;> ((try simp [re_]))))
   refine .rgn [] (by simp only [go_sem, seval, a6_, be_]; rfl) ?_ ?_
   ·(first | trivial | (simp; done) | (simp only [T3_] at h16; have he := fd_ (show q.1 < s.length by omega); first | exact ⟨by omega, hI.2.1⟩ | exact ⟨by omega, by omega⟩ | (refine ⟨by omega, by omega, by omega, by omega, by simp⟩) | (refine ⟨⟨⟨by omega, by omega, by omega, by omega, by simp⟩, rfl⟩, ?_⟩; simp; omega)))
   refine Exists.intro ((q.1 + dv_ (s.drop q.1), p)) ⟨?_, ?_, ?_⟩
   ·simp only [T3_] at h16; have he := fd_ (show q.1 < s.length by omega); exact ⟨by dsimp only; omega, hI.2.1, by dsimp only; have := hJ.1; omega, hJ.2⟩
   ·simp only [T3_] at h16; have := fd_ (show q.1 < s.length by omega); dsimp only; omega
   exact Can.weak (Weak.lit (by simp only [go_sem, seval, a6_, be_, ay_, leV, aw_, ax_, V.inn, us, T9_, Ta_] <;> ((try simp))) (by simp only [go_sem, seval, a6_, be_, ay_, leV, aw_, ax_, V.inn, us, T9_, Ta_]) (by simp only [go_sem, seval, a6_, be_, ay_, leV, aw_, ax_, V.inn, us, T9_, Ta_] <;> ((try simp))))
  ·refine .exit (.seq (.rgn [] (by simp only [go_sem, seval, a6_, be_]; rfl) ?_ ?_))
   ·(first | trivial | (simp; done) | (simp only [T3_] at h16; have he := fd_ (show q.1 < s.length by omega); first | exact ⟨by omega, hI.2.1⟩ | exact ⟨by omega, by omega⟩ | (refine ⟨by omega, by omega, by omega, by omega, by simp⟩) | (refine ⟨⟨⟨by omega, by omega, by omega, by omega, by simp⟩, rfl⟩, ?_⟩; simp; omega)))
   refine .frz 60 (by simp only [go_sem, seval, a6_, be_]; rfl) (by simp only [go_sem, seval, a6_, be_]) (by simp only [go_sem, seval, a6_, be_]; rfl) (by simp only [go_sem, seval, a6_, be_]; rfl) ?_
   refine .ret ⟨.inr rfl, ?_⟩
   exact Out.plainL (by simp only [Tryz.results96]; rfl) (by simp only [bd_, bo_, go_sem, seval, a6_, be_] <;> (split <;> rfl)) (by simp only [bn_, go_sem, seval, a6_, be_] <;> (simp only [T4_] at h16; rw [hj_ hI.2.1, hI.2.2.2, s5_ (by omega)]; simp [T1_, be_, leV, by_])) (by simp only [go_sem, seval, a6_, be_])
end
section
set_option maxRecDepth 100000
set_option maxHeartbeats 4000000
end
section
set_option maxRecDepth 100000
set_option maxHeartbeats 4000000
theorem akf_ {α : Type} {d : α} {a b : List α} {k : Nat} (ha : k < a.length) (hb : k < b.length) (h : a.take k = b.take k) (e : a.getD k d = b.getD k d) : a.take (k + 1) = b.take (k + 1) := by
 rw [List.take_add_one (l := a), List.take_add_one (l := b), h, T6_ ha, T6_ hb]
 rw [T8_, T8_, T6_ ha, T6_ hb] at e
 rw [show a[k] = b[k] by simpa using e]
end
end Go.Proofs.YtefmbmafdgedmaaGreatDoor
