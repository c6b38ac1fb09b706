/- Numbers and words of a line: the reference's l12Num, l3Num, TokOk, TokKind, l3Class. Conditions: none. -/
import Derived.Test.YtcigkafioinfoaaGreatDoorKn
import Derived.Test.YtcigkafioinfoaaGreatDoorKg
import Derived.Test.YtcigkafioinfoaaGreatDoorKd
import Derived.Test.YtcigkafioinfoaaGreatDoorKb
import Derived.Test.YtcigkafioinfoaaGreatDoorK3
import Derived.Test.YtcigkafioinfoaaGreatDoorK1
set_option linter.unusedVariables false
set_option linter.unusedSimpArgs false
namespace Go.Proofs.YtcigkafioinfoaaGreatDoor
section
set_option maxRecDepth 100000
set_option maxHeartbeats 4000000
theorem j3_ (s : Str) : (decide ((s.length : Int) > 0) && (((s.getD 0 0).toNat : Int) == 45)) = (s.head? == some 45) := by
 cases s with
 | nil => rfl
 | cons c r =>
  have h : decide (((c :: r).length : Int) > 0) = true := by simp only [T7_, T3_]; omega
  rw [h, Bool.true_and]
  simp only [List.getD_cons_zero, List.head?_cons]
  rw [Bool.eq_iff_iff]
  simp only [beq_iff_eq, Option.some.injEq]
  constructor
  ·intro e; apply UInt8.toNat_inj.1; show _ = 45; omega
  ·intro e; rw [e]; rfl
theorem r1_ : ∀ (k : Nat) (l : Str), k ≤ l.length → (l.take k).all cs_ = true → cf_ (l.take k) < 10 ^ k
 | 0, l, _, _ => by simp [cf_]
 | k + 1, l, hk, h => by
  have e : l.take (k + 1) = l.take k ++ [l.getD k 0] := by
   rw [List.take_add_one, T6_ hk, T8_, T6_ hk]; rfl
  rw [e, List.all_append, T5_] at h
  have ih := r1_ k l (by omega) h.1
  rw [e, hv_, Nat.pow_succ]
  have hd : cs_ (l.getD k 0) = true := by simpa using h.2
  simp only [cs_, T5_, T3_] at hd
  omega
theorem ae2_ {l : Str} {k : Nat} (hk : k < l.length) : cf_ (l.take (k + 1)) = cf_ (l.take k) * 10 + ((l.getD k 0).toNat - 48) := by
 have e : l.take (k + 1) = l.take k ++ [l.getD k 0] := by
  rw [List.take_add_one, T6_ hk, T8_, T6_ hk]; rfl
 rw [e, hv_]
theorem abv_ {l : Str} {k : Nat} (hk : k ≤ l.length) (h17 : l.length ≤ 17) (h : (l.take k).all cs_ = true) : cf_ (l.take k) < 100000000000000000 := by
 have := r1_ k l hk h
 have h2 : 10 ^ k ≤ 10 ^ 17 := Nat.pow_le_pow_right (by decide) (by omega)
 have h3 : (10 : Nat) ^ 17 = 100000000000000000 := by decide
 omega
def jk_ (s : Str) : Bool := s.head? == some 45
def c9_ (s : Str) : Str := if jk_ s then s.tail else s
theorem pr_ (s : Str) : ia_ s = if (c9_ s).length = 0 ∨ 17 < (c9_ s).length ∨ ((c9_ s).head? = some 48 ∧ (1 < (c9_ s).length ∨ jk_ s = true)) then (0, false) else if (c9_ s).all cs_ then (if jk_ s then -(cf_ (c9_ s) : Int) else cf_ (c9_ s), true) else (0, false) := rfl
theorem aio_ (q : Str) (h : q ≠ []) : (((q.getD 0 0).toNat : Int) == 48) = decide (q.head? = some 48) := by
 cases q with
 | nil => exact absurd rfl h
 | cons c r =>
  simp only [List.getD_cons_zero, List.head?_cons, Option.some.injEq]
  rw [Bool.eq_iff_iff]
  simp only [beq_iff_eq, T3_]
  constructor
  ·intro e; apply UInt8.toNat_inj.1; show _ = 48; omega
  ·intro e; rw [e]; rfl
theorem aee_ (q : Str) (n : Bool) : (((q.length : Int) == 0) || decide ((q.length : Int) > 17) || (((q.getD 0 0).toNat : Int) == 48) && (decide ((q.length : Int) > 1) || n)) = decide (q.length = 0 ∨ 17 < q.length ∨ (q.head? = some 48 ∧ (1 < q.length ∨ n = true))) := by
 by_cases hq : q = []
 ·subst hq; simp
 ·rw [aio_ q hq, Bool.eq_iff_iff]
  simp only [Bool.or_eq_true, T5_, beq_iff_eq, T3_]
  constructor
  ·rintro ((h | h) | ⟨h1, h2 | h2⟩)
   ·exact .inl (by omega)
   ·exact .inr (.inl (by omega))
   ·exact .inr (.inr ⟨h1, .inl (by omega)⟩)
   ·exact .inr (.inr ⟨h1, .inr h2⟩)
  ·rintro (h | h | ⟨h1, h2 | h2⟩)
   ·exact .inl (.inl (by omega))
   ·exact .inl (.inr (by omega))
   ·exact .inr ⟨h1, .inl (by omega)⟩
   ·exact .inr ⟨h1, .inr h2⟩
theorem x1_ {s : Str} (h : (((c9_ s).length : Int) == 0 || decide (((c9_ s).length : Int) > 17) || ((((c9_ s).getD 0 0).toNat : Int) == 48) && (decide (((c9_ s).length : Int) > 1) || jk_ s)) = true) : ia_ s = (0, false) := by
 rw [aee_] at h
 rw [pr_, if_pos (of_decide_eq_true h)]
theorem pv_ {s : Str} (h : (((c9_ s).length : Int) == 0 || decide (((c9_ s).length : Int) > 17) || ((((c9_ s).getD 0 0).toNat : Int) == 48) && (decide (((c9_ s).length : Int) > 1) || jk_ s)) = false) : (c9_ s).length ≤ 17 ∧ ia_ s = (if (c9_ s).all cs_ then (if jk_ s then -(cf_ (c9_ s) : Int) else cf_ (c9_ s), true) else (0, false)) := by
 rw [aee_] at h
 have := of_decide_eq_false h
 exact ⟨by omega, by rw [pr_, if_neg this]⟩
theorem zq_ (c : UInt8) : ∀ (s : Str) (k : Nat), k < s.length → c ∉ s.take k → s.getD k 0 = c → Lib.indexByte s c = k
 | [], k, h, _, _ => by simp at h
 | b :: s, 0, _, _, e => by
  simp only [List.getD_cons_zero] at e
  subst e
  unfold Lib.indexByte; simp
 | b :: s, k + 1, h, hn, e => by
  simp only [List.take_succ_cons, List.mem_cons, not_or] at hn
  have ih := zq_ c s k (by simpa using h) hn.2 (by simpa using e)
  unfold Lib.indexByte
  rw [if_neg (by simpa using fun q => hn.1 q.symm), ih, if_neg (by simp)]; rfl
theorem ai6_ (c : UInt8) (s : Str) (h : c ∉ s) : Lib.indexByte s c = -1 := by
 have h1 := xz_ s c
 have h2 : ¬ 0 ≤ Lib.indexByte s c := fun q => h ((sj_ s c).1 q)
 omega
theorem ahf_ {a b : UInt8} (h : ((a.toNat : Int) == (b.toNat : Int)) = true) : a = b := by
 simp only [beq_iff_eq] at h
 apply UInt8.toNat_inj.1; omega
theorem aiw_ {a b : UInt8} (h : ((a.toNat : Int) == (b.toNat : Int)) = false) : a ≠ b := by
 rintro rfl; simp at h
theorem aft_ {s : Str} {k : Nat} {c : UInt8} (hk : k < s.length) (h : c ∉ s.take k) (h2 : s.getD k 0 ≠ c) : c ∉ s.take (k + 1) := by
 rw [List.take_add_one, T6_ hk]
 rw [T8_, T6_ hk] at h2
 simp only [Option.toList, List.mem_append, List.mem_cons, List.not_mem_nil, or_false, not_or]
 exact ⟨h, fun e => h2 e.symm⟩
theorem acy_ {c : UInt8} (h : (decide ((c.toNat : Int) < 48) || decide ((c.toNat : Int) > 57)) = true) : cs_ c = false := by
 simp only [Bool.or_eq_true, T3_] at h
 rw [Bool.eq_false_iff]
 intro q
 simp only [cs_, T5_, T3_] at q
 omega
theorem si_ {c : UInt8} (h : (decide ((c.toNat : Int) < 48) || decide ((c.toNat : Int) > 57)) = false) : cs_ c = true ∧ 48 ≤ c.toNat ∧ c.toNat ≤ 57 := by
 simp only [Bool.or_eq_false_iff, T4_] at h
 simp only [cs_, T5_, T3_]
 omega
theorem akk_ {n : Int} (h1 : 0 ≤ n) (h2 : n < 256) : IntKind.u8.wrap n = n := by
 have e : (2 : Int) ^ IntKind.u8.bits = 256 := rfl
 have e' : IntKind.u8.signed = false := rfl
 simp only [IntKind.wrap, e, e', Bool.false_and, Bool.false_eq_true, if_false]
 omega
theorem ahb_ {q : Str} {k : Nat} (hk : k < q.length) : (q.take (k + 1)).all cs_ = ((q.take k).all cs_ && cs_ (q.getD k 0)) := by
 rw [List.take_add_one, T6_ hk, List.all_append, T8_, T6_ hk]; simp
theorem uv_ (s : Str) (hs : s.length ≤ 281474976710656) : ACall En 265 [.s s] [] [.i .i64 (ia_ s).1, .b (ia_ s).2] [] := by
 have hq : (c9_ s).length ≤ s.length := by unfold c9_; split <;> simp
 have hN := pr_ s
 refine al_ (fn := Tryz.f265) [] Tryz.func265 rfl rfl (by simp) fun C => ?_
 rw [ay_]
 simp only [Tryz.ntmps265, T7_, List.length_nil, Nat.reduceAdd, Nat.reduceSub, List.replicate_succ, List.replicate_zero, List.cons_append, List.nil_append, bs_]
 refine .seq (.rgn [] (by simp only [go_sem, seval]; rfl) ?_ ?_)
 ·first | trivial | simp
 refine .seq (.rgn [] (by simp only [go_sem, seval]; rfl) ?_ ?_)
 ·first | trivial | simp
 refine .seqJ (fun q : Str => ⟨[.s q, .no, .no, .no, .b (jk_ s), .no, .no, .no, .no, .no, .no, .no, .no, .no, .no, .no, .no, .no, .no, .no, .no, .no, .no, .no, .no, .no, .no, .no, .no, .no, .no, .no, .no, .no, .no, .no, .no, .no, .no, .no, .no, .no, .no, .no, .no, .no, .no, .no, .no, .no, .no, .no, .no, .no, .no, .no, .no, .no, .no, .no, .no, .no, .no, .no, .no, .no, .no], a7_ [], us []⟩) (fun q : Str => q = c9_ s) ?_ (fun q hJ => ?_)
 ·refine .seq (.rgn [] (by simp only [go_sem, seval]; rfl) ?_ ?_)
  ·first | trivial | simp
  refine .condB (by simp only [go_sem, seval]; rfl) (by simp only [go_sem, seval]) (fun h15 => ?_) (fun h15 => ?_)
  ·refine .rgn [] (by simp only [go_sem, seval]; rfl) ?_ ?_
   ·rw [T5_] at h15; have h0 := of_decide_eq_true h15.1; omega
   refine Exists.intro (s.drop 1) ⟨?_, ?_⟩
   ·rw [j3_] at h15; unfold c9_ jk_; rw [h15]; simp
   exact Can.weak (Weak.lit (by simp only [go_sem, seval, at_, leV, aq_, ar_, V.inn, us, T9_, Ta_] <;> (first | (refine ⟨by simp [T1_], ?_⟩; rw [j3_]; rfl) | (rw [j3_]; rfl))) (by simp only [go_sem, seval, at_, leV, aq_, ar_, V.inn, us, T9_, Ta_]) (by simp only [go_sem, seval, at_, leV, aq_, ar_, V.inn, us, T9_, Ta_]))
  ·refine .skip ?_
   refine Exists.intro (s) ⟨?_, ?_⟩
   ·rw [j3_] at h15; unfold c9_ jk_; rw [h15]; simp
   exact Can.weak (Weak.lit (by simp only [go_sem, seval, at_, leV, aq_, ar_, V.inn, us, T9_, Ta_] <;> (first | (refine ⟨by simp [T1_], ?_⟩; rw [j3_]; rfl) | (rw [j3_]; rfl))) (by simp only [go_sem, seval, at_, leV, aq_, ar_, V.inn, us, T9_, Ta_]) (by simp only [go_sem, seval, at_, leV, aq_, ar_, V.inn, us, T9_, Ta_]))
 refine .seq (.seq (.rgn [] (by simp only [go_sem, seval]; rfl) ?_ ?_))
 ·refine ⟨⟨⟨⟨fun h => by rw [h]; rfl, fun h => ⟨h, by simp only [Bool.not_eq_true', Bool.or_eq_false_iff, beq_eq_false_iff_ne] at h; have := h.1; omega⟩⟩, fun h => ⟨h, fun h2 => by rw [h, h2]; rfl⟩⟩, fun h => ⟨h, fun h2 => by rw [h, h2]; rfl⟩⟩, fun h => by rw [h]; rfl⟩
 refine .condB (by simp only [go_sem, seval]; rfl) (by simp only [go_sem, seval]) (fun h38 => ?_) (fun h38 => ?_)
 ·refine .seq (.rgn [] (by simp only [go_sem, seval]; rfl) ?_ ?_)
  ·first | trivial | simp
  refine .ret ⟨.inr rfl, ?_⟩
  exact Out.plain (by simp only [Tryz.results265]; rfl) (by simp only [az_, bj_, go_sem, seval] <;> (split <;> rfl)) (by simp only [bg_, go_sem, seval] <;> (subst hJ; rw [x1_ h38])) (by simp only [go_sem, seval])
 ·refine .skip (.seq (.rgn [] (by simp only [go_sem, seval]; rfl) ?_ ?_))
  ·first | trivial | simp
  refine .seq (.seq (.rgn [] (by simp only [go_sem, seval]; rfl) ?_ ?_))
  ·first | trivial | simp
  refine .block (.loopK (fun k : Nat => ⟨[.s q, .no, .no, .no, .b (jk_ s), .i .i64 (cf_ (q.take k)), .i .i64 k, .no, .no, .no, .no, .no, .no, .no, .no, .no, .no, .no, .no, .no, .no, .no, .no, .no, .no, .no, .no, .no, .no, .no, .no, .no, .no, .no, .no, .no, .no, .no, .no, .no, .no, .no, .no, .no, .no, .no, .no, .no, .no, .no, .no, .no, .no, .no, .no, .no, .no, .no, .no, .no, .no, .no, .no, .no, .no, .no, .no], a7_ [], us []⟩) (fun k : Nat => k ≤ q.length ∧ q.length ≤ 17 ∧ (q.take k).all cs_ = true) (fun k : Nat => q.length - k) (0) ?_ ?_ (fun k hI => ?_))
  ·subst hJ; exact ⟨Nat.zero_le _, (pv_ h38).1, by simp⟩
  ·exact Can.weak (Weak.lit (by simp only [go_sem, seval, at_, leV, aq_, ar_, V.inn, us, T9_, Ta_] <;> (simp [cf_])) (by simp only [go_sem, seval, at_, leV, aq_, ar_, V.inn, us, T9_, Ta_]) (by simp only [go_sem, seval, at_, leV, aq_, ar_, V.inn, us, T9_, Ta_]))
  refine .seq (.seq (.rgn [] (by simp only [go_sem, seval]; rfl) ?_ ?_))
  ·first | trivial | simp
  refine .condB (by simp only [go_sem, seval]; rfl) (by simp only [go_sem, seval]) (fun h42 => ?_) (fun h42 => ?_)
  ·refine .skip (.seq (.block (.seq (.seq (.rgn [] (by simp only [go_sem, seval]; rfl) ?_ ?_)))))
   ·simp only [T3_] at h42; exact ⟨⟨⟨by omega, by omega⟩, fun h => ⟨h, by omega, by omega⟩⟩, fun h => by rw [h]; rfl⟩
   refine .condB (by simp only [go_sem, seval]; rfl) (by simp only [go_sem, seval]) (fun h54 => ?_) (fun h54 => ?_)
   ·refine .seq (.rgn [] (by simp only [go_sem, seval]; rfl) ?_ ?_)
    ·first | trivial | simp
    refine .ret ⟨.inr rfl, ?_⟩
    exact Out.plain (by simp only [Tryz.results265]; rfl) (by simp only [az_, bj_, go_sem, seval] <;> (split <;> rfl)) (by simp only [bg_, go_sem, seval] <;> (subst hJ; simp only [T3_] at h42; rw [(pv_ h38).2, if_neg]; intro h; have := List.all_eq_true.1 h _ (bt_ (d := 0) (show k < (c9_ s).length by omega)); rw [acy_ h54] at this; cases this)) (by simp only [go_sem, seval])
   ·refine .skip (.rgn [] (by simp only [go_sem, seval]; rfl) ?_ ?_)
    ·simp only [T3_] at h42; exact ⟨by omega, by omega⟩
    refine .rgn [] (by simp only [go_sem, seval]; rfl) ?_ ?_
    ·first | trivial | simp
    refine Exists.intro (k + 1) ⟨?_, ?_, ?_⟩
    ·simp only [T3_] at h42; exact ⟨by omega, hI.2.1, by rw [ahb_ (by omega), hI.2.2, (si_ h54).1]; rfl⟩
    ·simp at h42; omega
    exact Can.weak (Weak.lit (by simp only [go_sem, seval, at_, leV, aq_, ar_, V.inn, us, T9_, Ta_] <;> ((simp only [T3_] at h42); (have hb := abv_ hI.1 hI.2.1 hI.2.2); (have hd := si_ h54); rw [akk_ (by omega) (by omega), bp_ (show -9223372036854775808 ≤ (((q.getD k 0).toNat : Int) - 48) by omega) (by omega), bp_ (show -9223372036854775808 ≤ ((cf_ (q.take k) : Int) * 10) by omega) (by omega), bp_ (by omega) (by omega), bp_ (by omega) (by omega), ae2_ (show k < q.length by omega)]; omega)) (by simp only [go_sem, seval, at_, leV, aq_, ar_, V.inn, us, T9_, Ta_]) (by simp only [go_sem, seval, at_, leV, aq_, ar_, V.inn, us, T9_, Ta_]))
  ·refine .exit (.seqJ (fun v : Int => ⟨[.no, .no, .no, .no, .no, .i .i64 v, .no, .no, .no, .no, .no, .no, .no, .no, .no, .no, .no, .no, .no, .no, .no, .no, .no, .no, .no, .no, .no, .no, .no, .no, .no, .no, .no, .no, .no, .no, .no, .no, .no, .no, .no, .no, .no, .no, .no, .no, .no, .no, .no, .no, .no, .no, .no, .no, .no, .no, .no, .no, .no, .no, .no, .no, .no, .no, .no, .no, .no], a7_ [], us []⟩) (fun v : Int => v = (if jk_ s then -(cf_ q : Int) else cf_ q) ∧ q.all cs_ = true) ?_ (fun v hJ => ?_))
   ·refine .seq (.rgn [] (by simp only [go_sem, seval]; rfl) ?_ ?_)
    ·first | trivial | simp
    refine .condB (by simp only [go_sem, seval]; rfl) (by simp only [go_sem, seval]) (fun h63 => ?_) (fun h63 => ?_)
    ·refine .rgn [] (by simp only [go_sem, seval]; rfl) ?_ ?_
     ·first | trivial | simp
     refine Exists.intro (-(cf_ q : Int)) ⟨?_, ?_⟩
     ·simp only [T4_] at h42; (have h2 := hI.2.2); rw [T1_ (by omega)] at h2; rw [h63]; exact ⟨by simp, h2⟩
     exact Can.weak (Weak.lit (by simp only [go_sem, seval, at_, leV, aq_, ar_, V.inn, us, T9_, Ta_] <;> ((simp only [T4_] at h42); (have hb := abv_ hI.1 hI.2.1 hI.2.2); rw [T1_ (by omega)] at hb ⊢; (try first | (rw [bp_ (by omega) (by omega)] <;> omega) | rfl))) (by simp only [go_sem, seval, at_, leV, aq_, ar_, V.inn, us, T9_, Ta_]) (by simp only [go_sem, seval, at_, leV, aq_, ar_, V.inn, us, T9_, Ta_]))
    ·refine .skip ?_
     refine Exists.intro ((cf_ q : Int)) ⟨?_, ?_⟩
     ·simp only [T4_] at h42; (have h2 := hI.2.2); rw [T1_ (by omega)] at h2; rw [h63]; exact ⟨by simp, h2⟩
     exact Can.weak (Weak.lit (by simp only [go_sem, seval, at_, leV, aq_, ar_, V.inn, us, T9_, Ta_] <;> ((simp only [T4_] at h42); (have hb := abv_ hI.1 hI.2.1 hI.2.2); rw [T1_ (by omega)] at hb ⊢; (try first | (rw [bp_ (by omega) (by omega)] <;> omega) | rfl))) (by simp only [go_sem, seval, at_, leV, aq_, ar_, V.inn, us, T9_, Ta_]) (by simp only [go_sem, seval, at_, leV, aq_, ar_, V.inn, us, T9_, Ta_]))
   refine .seq (.rgn [] (by simp only [go_sem, seval]; rfl) ?_ ?_)
   ·first | trivial | simp
   refine .ret ⟨.inr rfl, ?_⟩
   exact Out.plain (by simp only [Tryz.results265]; rfl) (by simp only [az_, bj_, go_sem, seval] <;> (split <;> rfl)) (by simp only [bg_, go_sem, seval] <;> (obtain ⟨j1, j2⟩ := hJ; (have e : q = c9_ s := (by assumption)); subst e; rw [(pv_ h38).2, if_pos j2, ← j1])) (by simp only [go_sem, seval])
theorem yg_ (s : Str) (hs : s.length ≤ 281474976710656) : ACall En 247 [.s s] [] [.b (c4_ s)] [] := by
 have h := (wd_ s).1
 refine al_ (fn := Tryz.f247) [] Tryz.func247 rfl rfl (by simp) fun C => ?_
 rw [ay_]
 simp only [Tryz.ntmps247, T7_, List.length_nil, Nat.reduceAdd, Nat.reduceSub, List.replicate_succ, List.replicate_zero, List.cons_append, List.nil_append, bs_]
 refine .seq (.rgn [] (by simp only [go_sem, seval]; rfl) ?_ ?_)
 ·first | trivial | simp
 refine .seq (.rgn [a9_ (uv_ s hs)] (by simp only [go_sem, seval]; rfl) ?_ ?_)
 ·first | trivial | simp
 refine .seq (.rgn [] (by simp only [go_sem, seval]; rfl) ?_ ?_)
 ·first | trivial | simp
 refine .ret ⟨.inr rfl, ?_⟩
 exact Out.plain (by simp only [Tryz.results247]; rfl) (by simp only [az_, bj_, go_sem, seval] <;> (split <;> rfl)) (by simp only [bg_, go_sem, seval] <;> (rw [← h]; simp [Bool.and_assoc])) (by simp only [go_sem, seval])
theorem q8_ : ACall En 246 [] [] [.s marks] [] := by
 refine al_ (fn := Tryz.f246) [] Tryz.func246 rfl rfl (by simp) fun C => ?_
 rw [ay_]
 simp only [Tryz.ntmps246, T7_, List.length_nil, Nat.reduceAdd, Nat.reduceSub, List.replicate_succ, List.replicate_zero, List.cons_append, List.nil_append, bs_]
 refine .seq (.rgn [] (by simp only [go_sem, seval]; rfl) ?_ ?_)
 ·first | trivial | simp
 refine .seq (.rgn [] (by simp only [go_sem, seval]; rfl) ?_ ?_)
 ·first | trivial | simp
 refine .ret ⟨.inr rfl, ?_⟩
 exact Out.plain (by simp only [Tryz.results246]; rfl) (by simp only [az_, bj_, go_sem, seval] <;> (split <;> rfl)) (by simp only [bg_, go_sem, seval] <;> (rfl)) (by simp only [go_sem, seval])
theorem r7_ (s : Str) (c : UInt8) (hs : s.length ≤ 281474976710656) : ACall En 245 [.s s, .i .u8 c.toNat] [] [.i .i64 (Lib.indexByte s c)] [] := by
 refine al_ (fn := Tryz.f245) [] Tryz.func245 rfl rfl (by simp) fun C => ?_
 rw [ay_]
 simp only [Tryz.ntmps245, T7_, List.length_nil, Nat.reduceAdd, Nat.reduceSub, List.replicate_succ, List.replicate_zero, List.cons_append, List.nil_append, bs_]
 refine .seq (.rgn [] (by simp only [go_sem, seval]; rfl) ?_ ?_)
 ·(first | trivial | (simp; done) | (simp at h9; simp; omega))
 refine .seq (.seq (.rgn [] (by simp only [go_sem, seval]; rfl) ?_ ?_))
 ·(first | trivial | (simp; done) | (simp at h9; simp; omega))
 refine .block (.loopK (fun k : Nat => ⟨[.s s, .i .u8 c.toNat, .no, .no, .no, .i .i64 k, .no, .no, .no, .no, .no, .no, .no, .no, .no, .no, .no, .no], a7_ [], us []⟩) (fun k : Nat => k ≤ s.length ∧ c ∉ s.take k) (fun k : Nat => s.length - k) (0) ?_ ?_ (fun k hI => ?_))
 ·simp
 ·exact Can.weak (Weak.lit (by simp only [go_sem, seval, at_, leV, aq_, ar_, V.inn, us, T9_, Ta_] <;> ((try simp))) (by simp only [go_sem, seval, at_, leV, aq_, ar_, V.inn, us, T9_, Ta_]) (by simp only [go_sem, seval, at_, leV, aq_, ar_, V.inn, us, T9_, Ta_]))
 refine .seq (.seq (.rgn [] (by simp only [go_sem, seval]; rfl) ?_ ?_))
 ·(first | trivial | (simp; done) | (simp at h9; simp; omega))
 refine .condB (by simp only [go_sem, seval]; rfl) (by simp only [go_sem, seval]) (fun h9 => ?_) (fun h9 => ?_)
 ·refine .skip (.seq (.block (.seq (.rgn [] (by simp only [go_sem, seval]; rfl) ?_ ?_))))
  ·(first | trivial | (simp; done) | (simp at h9; simp; omega))
  refine .condB (by simp only [go_sem, seval]; rfl) (by simp only [go_sem, seval]) (fun h16 => ?_) (fun h16 => ?_)
  ·refine .seq (.rgn [] (by simp only [go_sem, seval]; rfl) ?_ ?_)
   ·(first | trivial | (simp; done) | (simp at h9; simp; omega))
   refine .ret ⟨.inr rfl, ?_⟩
   exact Out.plain (by simp only [Tryz.results245]; rfl) (by simp only [az_, bj_, go_sem, seval] <;> (split <;> rfl)) (by simp only [bg_, go_sem, seval] <;> (simp only [T3_] at h9; rw [zq_ c s k (by omega) hI.2 (ahf_ h16)])) (by simp only [go_sem, seval])
  ·refine .skip (.rgn [] (by simp only [go_sem, seval]; rfl) ?_ ?_)
   ·(first | trivial | (simp; done) | (simp at h9; simp; omega))
   refine Exists.intro (k + 1) ⟨?_, ?_, ?_⟩
   ·simp only [T3_] at h9; exact ⟨by omega, aft_ (by omega) hI.2 (aiw_ h16)⟩
   ·simp at h9; omega
   exact Can.weak (Weak.lit (by simp only [go_sem, seval, at_, leV, aq_, ar_, V.inn, us, T9_, Ta_] <;> (rw [bp_ (by simp at h9; omega) (by simp at h9; omega)]; simp)) (by simp only [go_sem, seval, at_, leV, aq_, ar_, V.inn, us, T9_, Ta_]) (by simp only [go_sem, seval, at_, leV, aq_, ar_, V.inn, us, T9_, Ta_]))
 ·refine .exit (.seq (.rgn [] (by simp only [go_sem, seval]; rfl) ?_ ?_))
  ·(first | trivial | (simp; done) | (simp at h9; simp; omega))
  refine .ret ⟨.inr rfl, ?_⟩
  exact Out.plain (by simp only [Tryz.results245]; rfl) (by simp only [az_, bj_, go_sem, seval] <;> (split <;> rfl)) (by simp only [bg_, go_sem, seval] <;> (simp only [T4_] at h9; have h2 := hI.2; rw [T1_ (by omega)] at h2; rw [ai6_ c s h2])) (by simp only [go_sem, seval])
end
section
set_option maxRecDepth 100000
set_option maxHeartbeats 4000000
def de_ (c : UInt8) : Int := if c0_ c then 1 else if cs_ c then 2 else if marks.contains c then 3 else if c = 32 then 4 else 0
theorem rq_ (c : UInt8) : ACall En 212 [.i .u8 c.toNat] [] [.i .i64 (de_ c)] [] := by
 have hf : decide (Lib.indexByte marks c ≥ 0) = marks.contains c := ix_ marks c
 have h1 : (decide ((c.toNat : Int) ≥ 97) && decide ((c.toNat : Int) ≤ 122)) = c0_ c := rfl
 have h2 : (decide ((c.toNat : Int) ≥ 48) && decide ((c.toNat : Int) ≤ 57)) = cs_ c := rfl
 refine al_ (fn := Tryz.f212) [] Tryz.func212 rfl rfl (by simp) fun C => ?_
 rw [ay_]
 simp only [Tryz.ntmps212, T7_, List.length_nil, Nat.reduceAdd, Nat.reduceSub, List.replicate_succ, List.replicate_zero, List.cons_append, List.nil_append, bs_]
 refine .seq (.rgn [] (by simp only [go_sem, seval]; rfl) ?_ ?_)
 ·(first | trivial | (simp; done) | (intro h; rw [h]; rfl))
 refine .seq (.block (.seq (.rgn [] (by simp only [go_sem, seval]; rfl) ?_ ?_)))
 ·(first | trivial | (simp; done) | (intro h; rw [h]; rfl))
 refine .condB (by simp only [go_sem, seval]; rfl) (by simp only [go_sem, seval]) (fun h3 => ?_) (fun h3 => ?_)
 ·refine .seq (.rgn [] (by simp only [go_sem, seval]; rfl) ?_ ?_)
  ·(first | trivial | (simp; done) | (intro h; rw [h]; rfl))
  refine .ret ⟨.inr rfl, ?_⟩
  exact Out.plain (by simp only [Tryz.results212]; rfl) (by simp only [az_, bj_, go_sem, seval] <;> (split <;> rfl)) (by simp only [bg_, go_sem, seval] <;> (rw [h1] at h3; unfold de_; rw [if_pos h3])) (by simp only [go_sem, seval])
 ·refine .seq (.rgn [] (by simp only [go_sem, seval]; rfl) ?_ ?_)
  ·(first | trivial | (simp; done) | (intro h; rw [h]; rfl))
  refine .condB (by simp only [go_sem, seval]; rfl) (by simp only [go_sem, seval]) (fun h10 => ?_) (fun h10 => ?_)
  ·refine .seq (.rgn [] (by simp only [go_sem, seval]; rfl) ?_ ?_)
   ·(first | trivial | (simp; done) | (intro h; rw [h]; rfl))
   refine .ret ⟨.inr rfl, ?_⟩
   exact Out.plain (by simp only [Tryz.results212]; rfl) (by simp only [az_, bj_, go_sem, seval] <;> (split <;> rfl)) (by simp only [bg_, go_sem, seval] <;> (rw [h1] at h3; rw [h2] at h10; unfold de_; rw [if_neg (by simp [h3]), if_pos h10])) (by simp only [go_sem, seval])
  ·refine .seq (.rgn [a9_ q8_, a9_ (r7_ marks c (by decide))] (by simp only [go_sem, seval]; rfl) ?_ ?_)
   ·(first | trivial | (simp; done) | (intro h; rw [h]; rfl))
   refine .condB (by simp only [go_sem, seval]; rfl) (by simp only [go_sem, seval]) (fun h17 => ?_) (fun h17 => ?_)
   ·refine .seq (.rgn [] (by simp only [go_sem, seval]; rfl) ?_ ?_)
    ·(first | trivial | (simp; done) | (intro h; rw [h]; rfl))
    refine .ret ⟨.inr rfl, ?_⟩
    exact Out.plain (by simp only [Tryz.results212]; rfl) (by simp only [az_, bj_, go_sem, seval] <;> (split <;> rfl)) (by simp only [bg_, go_sem, seval] <;> (rw [h1] at h3; rw [h2] at h10; rw [hf] at h17; unfold de_; rw [if_neg (by simp [h3]), if_neg (by simp [h10]), if_pos h17])) (by simp only [go_sem, seval])
   ·refine .seq (.rgn [] (by simp only [go_sem, seval]; rfl) ?_ ?_)
    ·(first | trivial | (simp; done) | (intro h; rw [h]; rfl))
    refine .condB (by simp only [go_sem, seval]; rfl) (by simp only [go_sem, seval]) (fun h22 => ?_) (fun h22 => ?_)
    ·refine .seq (.rgn [] (by simp only [go_sem, seval]; rfl) ?_ ?_)
     ·(first | trivial | (simp; done) | (intro h; rw [h]; rfl))
     refine .ret ⟨.inr rfl, ?_⟩
     exact Out.plain (by simp only [Tryz.results212]; rfl) (by simp only [az_, bj_, go_sem, seval] <;> (split <;> rfl)) (by simp only [bg_, go_sem, seval] <;> (rw [h1] at h3; rw [h2] at h10; rw [hf] at h17; unfold de_; rw [if_neg (by simp [h3]), if_neg (by simp [h10]), if_neg (by rw [h17]; decide), if_pos (by apply UInt8.toNat_inj.1; show _ = 32; simp at h22; omega)])) (by simp only [go_sem, seval])
    ·refine .skip (.seq (.rgn [] (by simp only [go_sem, seval]; rfl) ?_ ?_))
     ·(first | trivial | (simp; done) | (intro h; rw [h]; rfl))
     refine .ret ⟨.inr rfl, ?_⟩
     exact Out.plain (by simp only [Tryz.results212]; rfl) (by simp only [az_, bj_, go_sem, seval] <;> (split <;> rfl)) (by simp only [bg_, go_sem, seval] <;> (rw [h1] at h3; rw [h2] at h10; rw [hf] at h17; unfold de_; rw [if_neg (by simp [h3]), if_neg (by simp [h10]), if_neg (by rw [h17]; decide), if_neg (by rintro rfl; simp at h22)])) (by simp only [go_sem, seval])
def exC (c : UInt8) (l : Str) : Nat := if de_ c < 3 then (l.takeWhile fun x => de_ x == de_ c).length else 0
def db_ (l : Str) : Nat := match l with | [] => 1 | c :: r => 1 + exC c r
theorem ly_ {s : Str} {k : Nat} (h : k < s.length) : s.drop k = s.getD k 0 :: s.drop (k + 1) := by
 rw [List.drop_eq_getElem_cons h, T8_, T6_ h]; rfl
theorem ak5_ (c : UInt8) (l : Str) : exC c l ≤ l.length := by
 unfold exC; split
 ·exact (List.takeWhile_prefix _).length_le
 ·omega
theorem e2_ {s : Str} {k : Nat} (h : k < s.length) : 1 ≤ db_ (s.drop k) ∧ k + db_ (s.drop k) ≤ s.length := by
 rw [ly_ h, db_]
 have := ak5_ (s.getD k 0) (s.drop (k + 1))
 rw [List.length_drop] at this
 omega
theorem ake_ {c : UInt8} {s : Str} {j : Nat} (h : j < s.length) (h1 : de_ c < 3) (h2 : de_ (s.getD j 0) = de_ c) : exC c (s.drop j) = 1 + exC c (s.drop (j + 1)) := by
 unfold exC
 rw [if_pos h1, if_pos h1, ly_ h, List.takeWhile_cons, if_pos (by rw [h2]; exact beq_self_eq_true _)]
 simp; omega
theorem ad4_ {c : UInt8} {s : Str} {j : Nat} (h : ¬ (j < s.length ∧ de_ c < 3 ∧ de_ (s.getD j 0) = de_ c)) : exC c (s.drop j) = 0 := by
 unfold exC
 split
 ·rename_i h1
  rcases Nat.lt_or_ge j s.length with q | q
  ·rw [ly_ q, List.takeWhile_cons, if_neg (by simp; exact fun e => h ⟨q, h1, e⟩)]; rfl
  ·rw [List.drop_of_length_le q]; rfl
 ·rfl
theorem agz_ (s : Str) (k : Nat) (hk : k < s.length) (hs : s.length ≤ 1000000) : ACall En 169 [.s s, .i .i64 k] [] [.i .i64 ((k + db_ (s.drop k) : Nat) : Int)] [] := by
 have hE : db_ (s.drop k) = 1 + exC (s.getD k 0) (s.drop (k + 1)) := by rw [ly_ hk]; rfl
 refine al_ (fn := Tryz.f169) [] Tryz.func169 rfl rfl (by simp) fun C => ?_
 rw [ay_]
 simp only [Tryz.ntmps169, T7_, List.length_nil, Nat.reduceAdd, Nat.reduceSub, List.replicate_succ, List.replicate_zero, List.cons_append, List.nil_append, bs_]
 refine .seq (.rgn [] (by simp only [go_sem, seval]; rfl) ?_ ?_)
 ·first | trivial | simp
 refine .seq (.rgn [a9_ (rq_ (s.getD k 0))] (by simp only [go_sem, seval]; rfl) ?_ ?_)
 ·exact ⟨by omega, by omega⟩
 refine .seq (.rgn [] (by simp only [go_sem, seval]; rfl) ?_ ?_)
 ·first | trivial | simp
 refine .seq (.block (.loopK (fun j : Nat => ⟨[.s s, .no, .no, .no, .no, .i .i64 (de_ (s.getD k 0)), .i .i64 j, .no, .no, .no, .no, .no, .no, .no, .no, .no, .no, .no, .no, .no, .no, .no, .no, .no, .no, .no, .no, .no, .no, .no, .no, .no], a7_ [], us []⟩) (fun j : Nat => k + 1 ≤ j ∧ j ≤ s.length ∧ k + 1 + exC (s.getD k 0) (s.drop (k + 1)) = j + exC (s.getD k 0) (s.drop j)) (fun j : Nat => s.length - j) (k + 1) ?_ ?_ (fun j hI => ?_)))
 ·exact ⟨Nat.le_refl _, hk, rfl⟩
 ·exact Can.weak (Weak.lit (by simp only [go_sem, seval, at_, leV, aq_, ar_, V.inn, us, T9_, Ta_] <;> (rw [bp_ (by omega) (by omega)]; simp)) (by simp only [go_sem, seval, at_, leV, aq_, ar_, V.inn, us, T9_, Ta_]) (by simp only [go_sem, seval, at_, leV, aq_, ar_, V.inn, us, T9_, Ta_]))
 refine .seq (.seq (.rgn [cw_ (j < s.length) (fun _ => rq_ (s.getD j 0))] (by simp only [go_sem, seval]; rfl) ?_ ?_))
 ·exact ⟨fun h => ⟨h, by omega, by rw [T5_] at h; exact of_decide_eq_true h.1⟩, fun h => ⟨h, by rw [T5_] at h; have h0 := of_decide_eq_true h.1; omega⟩⟩
 refine .condB (by simp only [go_sem, seval]; rfl) (by simp only [go_sem, seval]) (fun h28 => ?_) (fun h28 => ?_)
 ·refine .skip (.block (.rgn [] (by simp only [go_sem, seval]; rfl) ?_ ?_))
  ·first | trivial | simp
  refine Exists.intro (j + 1) ⟨?_, ?_, ?_⟩
  ·rw [T5_, T5_] at h28; have a := of_decide_eq_true h28.1.1; have b := of_decide_eq_true h28.1.2; have c := beq_iff_eq.1 h28.2; have e := ake_ (show j < s.length by omega) b c; exact ⟨by omega, by omega, by omega⟩
  ·rw [T5_, T5_] at h28; have a := of_decide_eq_true h28.1.1; omega
  exact Can.weak (Weak.lit (by simp only [go_sem, seval, at_, leV, aq_, ar_, V.inn, us, T9_, Ta_] <;> (rw [bp_ (by omega) (by omega)]; simp)) (by simp only [go_sem, seval, at_, leV, aq_, ar_, V.inn, us, T9_, Ta_]) (by simp only [go_sem, seval, at_, leV, aq_, ar_, V.inn, us, T9_, Ta_]))
 ·refine .exit (.seq (.rgn [] (by simp only [go_sem, seval]; rfl) ?_ ?_))
  ·first | trivial | simp
  refine .ret ⟨.inr rfl, ?_⟩
  exact Out.plain (by simp only [Tryz.results169]; rfl) (by simp only [az_, bj_, go_sem, seval] <;> (split <;> rfl)) (by simp only [bg_, go_sem, seval] <;> ((have e := ad4_ (c := s.getD k 0) (s := s) (j := j) (fun q => by rw [decide_eq_true (show (j : Int) < s.length by omega), decide_eq_true q.2.1, q.2.2] at h28; simp at h28)); rw [hE, show k + (1 + exC (s.getD k 0) (s.drop (k + 1))) = j by omega])) (by simp only [go_sem, seval])
theorem aat_ (s : Str) : (((s.length : Int) == 1) && decide (Lib.indexByte marks (s.getD 0 0) ≥ 0)) = fb_ s := by
 unfold fb_
 rw [show decide (Lib.indexByte marks (s.getD 0 0) ≥ 0) = marks.contains (s.getD 0 0) from ix_ marks _]
 congr 1
 ·rw [Bool.eq_iff_iff]; simp; omega
 ·cases s <;> rfl
def kx_ (k : Int) (s : Str) : Bool := if k = 1 then e1_ s else if k = 2 then c4_ s else if k = 3 then fb_ s else false
theorem aet_ (k : Int) (s : Str) (hs : s.length ≤ 281474976710656) : ACall En 213 [.i .i64 k, .s s] [] [.b (kx_ k s)] [] := by
 refine al_ (fn := Tryz.f213) [] Tryz.func213 rfl rfl (by simp) fun C => ?_
 rw [ay_]
 simp only [Tryz.ntmps213, T7_, List.length_nil, Nat.reduceAdd, Nat.reduceSub, List.replicate_succ, List.replicate_zero, List.cons_append, List.nil_append, bs_]
 refine .seq (.rgn [] (by simp only [go_sem, seval]; rfl) ?_ ?_)
 ·first | trivial | simp
 refine .seq (.seq (.rgn [] (by simp only [go_sem, seval]; rfl) ?_ ?_))
 ·first | trivial | simp
 refine .block (.seq (.rgn [] (by simp only [go_sem, seval]; rfl) ?_ ?_))
 ·first | trivial | simp
 refine .condB (by simp only [go_sem, seval]; rfl) (by simp only [go_sem, seval]) (fun h6 => ?_) (fun h6 => ?_)
 ·refine .seq (.rgn [a9_ (w1_ s (by omega))] (by simp only [go_sem, seval]; rfl) ?_ ?_)
  ·first | trivial | simp
  refine .ret ⟨.inr rfl, ?_⟩
  exact Out.plain (by simp only [Tryz.results213]; rfl) (by simp only [az_, bj_, go_sem, seval] <;> (split <;> rfl)) (by simp only [bg_, go_sem, seval] <;> (simp at h6; simp [kx_, h6])) (by simp only [go_sem, seval])
 ·refine .seq (.rgn [] (by simp only [go_sem, seval]; rfl) ?_ ?_)
  ·first | trivial | simp
  refine .condB (by simp only [go_sem, seval]; rfl) (by simp only [go_sem, seval]) (fun h10 => ?_) (fun h10 => ?_)
  ·refine .seq (.rgn [a9_ (yg_ s hs)] (by simp only [go_sem, seval]; rfl) ?_ ?_)
   ·first | trivial | simp
   refine .ret ⟨.inr rfl, ?_⟩
   exact Out.plain (by simp only [Tryz.results213]; rfl) (by simp only [az_, bj_, go_sem, seval] <;> (split <;> rfl)) (by simp only [bg_, go_sem, seval] <;> (simp at h6 h10; simp [kx_, h10])) (by simp only [go_sem, seval])
  ·refine .seq (.rgn [] (by simp only [go_sem, seval]; rfl) ?_ ?_)
   ·first | trivial | simp
   refine .condB (by simp only [go_sem, seval]; rfl) (by simp only [go_sem, seval]) (fun h14 => ?_) (fun h14 => ?_)
   ·refine .seq (.rgnD [a9_ q8_, cw_ (0 < s.length) (fun _ => r7_ marks (s.getD 0 0) (by decide))] enM (by simp only [go_sem, seval]; rfl) (by rfl) ?_ ?_)
    ·exact ⟨fun h => ⟨h, by have := beq_iff_eq.1 h; omega⟩, fun h => ⟨h, by have := beq_iff_eq.1 h; omega⟩⟩
    refine .ret ⟨.inr rfl, ?_⟩
    exact Out.plain (by simp only [Tryz.results213]; rfl) (by simp only [az_, bj_, go_sem, seval] <;> (split <;> rfl)) (by simp only [bg_, go_sem, seval] <;> (simp at h6 h10 h14; simp [kx_, h14]; rw [← aat_]; simp)) (by simp only [go_sem, seval])
   ·refine .skip (.seq (.rgn [] (by simp only [go_sem, seval]; rfl) ?_ ?_))
    ·first | trivial | simp
    refine .ret ⟨.inr rfl, ?_⟩
    exact Out.plain (by simp only [Tryz.results213]; rfl) (by simp only [az_, bj_, go_sem, seval] <;> (split <;> rfl)) (by simp only [bg_, go_sem, seval] <;> (simp at h6 h10 h14; simp [kx_, h6, h10, h14])) (by simp only [go_sem, seval])
theorem x3_ (s : Str) (hs : s.length ≤ 281474976710656) : ACall En 170 [.s s] [] [.i .i64 (da_ s)] [] := by
 refine al_ (fn := Tryz.f170) [] Tryz.func170 rfl rfl (by simp) fun C => ?_
 rw [ay_]
 simp only [Tryz.ntmps170, T7_, List.length_nil, Nat.reduceAdd, Nat.reduceSub, List.replicate_succ, List.replicate_zero, List.cons_append, List.nil_append, bs_]
 refine .seq (.rgn [] (by simp only [go_sem, seval]; rfl) ?_ ?_)
 ·first | trivial | simp
 refine .seq (.seq (.rgn [] (by simp only [go_sem, seval]; rfl) ?_ ?_))
 ·first | trivial | simp
 refine .block (.loopK (fun k : Nat => ⟨[.s s, .no, .no, .i .i64 k, .no, .no, .no, .no, .no, .no, .no, .no], a7_ [], us []⟩) (fun k : Nat => 1 ≤ k ∧ k ≤ 4 ∧ (2 ≤ k → e1_ s = false) ∧ (3 ≤ k → c4_ s = false) ∧ (4 ≤ k → fb_ s = false)) (fun k : Nat => 4 - k) (1) ?_ ?_ (fun k hI => ?_))
 ·exact ⟨by decide, by decide, fun h => by omega, fun h => by omega, fun h => by omega⟩
 ·exact Can.weak (Weak.lit (by simp only [go_sem, seval, at_, leV, aq_, ar_, V.inn, us, T9_, Ta_] <;> (rfl)) (by simp only [go_sem, seval, at_, leV, aq_, ar_, V.inn, us, T9_, Ta_]) (by simp only [go_sem, seval, at_, leV, aq_, ar_, V.inn, us, T9_, Ta_]))
 refine .seq (.seq (.rgn [] (by simp only [go_sem, seval]; rfl) ?_ ?_))
 ·first | trivial | simp
 refine .condB (by simp only [go_sem, seval]; rfl) (by simp only [go_sem, seval]) (fun h5 => ?_) (fun h5 => ?_)
 ·refine .skip (.seq (.block (.seq (.rgn [a9_ (aet_ k s hs)] (by simp only [go_sem, seval]; rfl) ?_ ?_))))
  ·first | trivial | simp
  refine .condB (by simp only [go_sem, seval]; rfl) (by simp only [go_sem, seval]) (fun h10 => ?_) (fun h10 => ?_)
  ·refine .seq (.rgn [] (by simp only [go_sem, seval]; rfl) ?_ ?_)
   ·first | trivial | simp
   refine .ret ⟨.inr rfl, ?_⟩
   exact Out.plain (by simp only [Tryz.results170]; rfl) (by simp only [az_, bj_, go_sem, seval] <;> (split <;> rfl)) (by simp only [bg_, go_sem, seval] <;> (simp only [T3_] at h5; unfold da_; rcases (show k = 1 ∨ k = 2 ∨ k = 3 by omega) with e | e | e <;> subst e <;> simp [kx_] at h10; (simp [h10]); (simp [h10, hI.2.2.1 (by omega)]); (simp [h10, hI.2.2.1 (by omega), hI.2.2.2.1 (by omega)]))) (by simp only [go_sem, seval])
  ·refine .skip (.rgn [] (by simp only [go_sem, seval]; rfl) ?_ ?_)
   ·first | trivial | simp
   refine Exists.intro (k + 1) ⟨?_, ?_, ?_⟩
   ·simp only [T3_] at h5; rcases (show k = 1 ∨ k = 2 ∨ k = 3 by omega) with e | e | e <;> subst e <;> simp [kx_] at h10; exact ⟨by omega, by omega, fun _ => h10, fun h => by omega, fun h => by omega⟩; exact ⟨by omega, by omega, fun _ => hI.2.2.1 (by omega), fun _ => h10, fun h => by omega⟩; exact ⟨by omega, by omega, fun _ => hI.2.2.1 (by omega), fun _ => hI.2.2.2.1 (by omega), fun _ => h10⟩
   ·simp at h5; omega
   exact Can.weak (Weak.lit (by simp only [go_sem, seval, at_, leV, aq_, ar_, V.inn, us, T9_, Ta_] <;> (rw [bp_ (by omega) (by omega)]; simp)) (by simp only [go_sem, seval, at_, leV, aq_, ar_, V.inn, us, T9_, Ta_]) (by simp only [go_sem, seval, at_, leV, aq_, ar_, V.inn, us, T9_, Ta_]))
 ·refine .exit (.seq (.rgn [] (by simp only [go_sem, seval]; rfl) ?_ ?_))
  ·first | trivial | simp
  refine .ret ⟨.inr rfl, ?_⟩
  exact Out.plain (by simp only [Tryz.results170]; rfl) (by simp only [az_, bj_, go_sem, seval] <;> (split <;> rfl)) (by simp only [bg_, go_sem, seval] <;> (simp only [T4_] at h5; unfold da_; simp [hI.2.2.1 (by omega), hI.2.2.2.1 (by omega), hI.2.2.2.2 (by omega)])) (by simp only [go_sem, seval])
theorem ua_ {c : UInt8} : (de_ c == 1) = c0_ c := by
 unfold de_
 cases h : c0_ c with
 | true => rfl
 | false => simp only [Bool.false_eq_true, if_false]; split <;> (try split) <;> (try split) <;> rfl
theorem ww_ {c : UInt8} : (de_ c == 2) = cs_ c := by
 unfold de_
 cases h : c0_ c with
 | true => rw [gr_ h]; rfl
 | false =>
  simp only [Bool.false_eq_true, if_false]
  cases cs_ c with
  | true => rfl
  | false => simp only [Bool.false_eq_true, if_false]; split <;> (try split) <;> rfl
theorem aea_ {c : UInt8} {l : Str} (h : de_ c ≠ 0) (h4 : c ≠ 32) : db_ (c :: l) = d9_ (c :: l) := by
 show 1 + (if de_ c < 3 then (l.takeWhile fun x => de_ x == de_ c).length else 0) = max 1 (max ((c :: l).takeWhile c0_).length ((c :: l).takeWhile cs_).length)
 cases hl : c0_ c with
 | true =>
  have e : de_ c = 1 := by unfold de_; rw [if_pos hl]
  rw [e, if_pos (by decide), kr_ (gr_ hl), List.takeWhile_cons, if_pos hl]
  have : (fun x => de_ x == 1) = c0_ := funext fun x => ua_
  rw [this]; simp; omega
 | false =>
  rw [kr_ (p := c0_) hl]
  cases hd : cs_ c with
  | true =>
   have e : de_ c = 2 := by unfold de_; rw [if_neg (by simp [hl]), if_pos hd]
   rw [e, if_pos (by decide), List.takeWhile_cons, if_pos hd]
   have : (fun x => de_ x == 2) = cs_ := funext fun x => ww_
   rw [this]; simp; omega
  | false =>
   rw [kr_ hd]
   have e : ¬ de_ c < 3 := by
    unfold de_ at h ⊢
    rw [if_neg (by simp [hl]), if_neg (by simp [hd])] at h ⊢
    split
    ·decide
    ·rename_i hm; rw [if_neg hm, if_neg h4] at h; exact absurd rfl h
   rw [if_neg e]; rfl
theorem abe_ {c : UInt8} {l : Str} (h : de_ c = 0) : da_ (c :: l) = 0 := by
 unfold de_ at h
 have hl : c0_ c = false := by
  cases q : c0_ c with
  | true => rw [q] at h; simp at h
  | false => rfl
 have hd : cs_ c = false := by
  cases q : cs_ c with
  | true => rw [hl, q] at h; simp at h
  | false => rfl
 have hm : marks.contains c = false := by
  cases q : marks.contains c with
  | true => rw [hl, hd, q] at h; simp at h
  | false => rfl
 unfold da_
 rw [if_neg, if_neg, if_neg]
 ·intro q; simp only [fb_, T5_, List.headD_cons] at q; rw [hm] at q; exact absurd q.2 (by decide)
 ·intro q
  obtain ⟨n, _, e⟩ := dy_.1 q
  have := (j0_ c).2 (do_ n c (by rw [← e]; simp))
  rw [hd] at this; cases this
 ·intro q; simp [e1_, hl] at q
theorem qc_ {l : Str} {k : Nat} (h : k < l.length) (col : Int) : fa_ (l.drop k).length (l.drop k) col =
  if l.getD k 0 = 32 then fa_ (l.drop (k + db_ (l.drop k))).length (l.drop (k + db_ (l.drop k))) (col + db_ (l.drop k))
  else if da_ ((l.drop k).take (db_ (l.drop k))) = 0 then none
  else (fa_ (l.drop (k + db_ (l.drop k))).length (l.drop (k + db_ (l.drop k))) (col + db_ (l.drop k))).map (⟨da_ ((l.drop k).take (db_ (l.drop k))), (l.drop k).take (db_ (l.drop k)), col⟩ :: ·) := by
 rw [og_ h]
 have hd := ly_ h
 by_cases h32 : l.getD k 0 = 32
 ·have e : db_ (l.drop k) = 1 := by
   rw [hd, db_, h32]; rfl
  rw [if_pos h32, if_pos h32, e]; rfl
 ·rw [if_neg h32, if_neg h32]
  by_cases h0 : de_ (l.getD k 0) = 0
  ·have p : ∀ m, 1 ≤ m → da_ ((l.drop k).take m) = 0 := fun m hm => by
    rw [hd]
    obtain ⟨m', rfl⟩ : ∃ m', m = m' + 1 := ⟨m - 1, by omega⟩
    rw [List.take_succ_cons]; exact abe_ h0
   rw [if_pos (p _ (z6_ h).1), if_pos (p _ (e2_ h).1)]
  ·have e : db_ (l.drop k) = d9_ (l.drop k) := by rw [hd]; exact aea_ h0 h32
   rw [e]
theorem o5_ (s : Str) (hs : s.length ≤ 281474976710656) : ACall En 108 [.s s] [] [.sl false (tkR ((b1_ s).getD [])), .b (b1_ s).isSome] [] := by
 refine al_ (fn := Tryz.f108) [] Tryz.func108 rfl rfl (by simp) fun C => ?_
 rw [ay_]
 simp only [Tryz.ntmps108, T7_, List.length_nil, Nat.reduceAdd, Nat.reduceSub, List.replicate_succ, List.replicate_zero, List.cons_append, List.nil_append, bs_]
 refine .seq (.rgn [] (by simp only [go_sem, seval, am_, as_]; rfl) ?_ ?_)
 ·(first | trivial | (simp; done) | (simp only [T3_] at h16; have he := e2_ (show q.1 < s.length by omega); first | exact ⟨by omega, hI.2.1⟩ | exact ⟨by omega, by omega⟩ | (refine ⟨by omega, by omega, by omega, by omega, by simp⟩) | (refine ⟨⟨⟨by omega, by omega, by omega, by omega, by simp⟩, rfl⟩, ?_⟩; simp; omega)))
 refine .seq (.rgn [] (by simp only [go_sem, seval, am_, as_]; rfl) ?_ ?_)
 ·(first | trivial | (simp; done) | (simp only [T3_] at h16; have he := e2_ (show q.1 < s.length by omega); first | exact ⟨by omega, hI.2.1⟩ | exact ⟨by omega, by omega⟩ | (refine ⟨by omega, by omega, by omega, by omega, by simp⟩) | (refine ⟨⟨⟨by omega, by omega, by omega, by omega, by simp⟩, rfl⟩, ?_⟩; simp; omega)))
 refine .seq (.seq (.rgn [] (by simp only [go_sem, seval, am_, as_]; rfl) ?_ ?_))
 ·(first | trivial | (simp; done) | (simp only [T3_] at h16; have he := e2_ (show q.1 < s.length by omega); first | exact ⟨by omega, hI.2.1⟩ | exact ⟨by omega, by omega⟩ | (refine ⟨by omega, by omega, by omega, by omega, by simp⟩) | (refine ⟨⟨⟨by omega, by omega, by omega, by omega, by simp⟩, rfl⟩, ?_⟩; simp; omega)))
 refine .condB (by simp only [go_sem, seval, am_, as_]; rfl) (by simp only [go_sem, seval, am_, as_]) (fun h11 => ?_) (fun h11 => ?_)
 ·refine .seq (.rgn [] (by simp only [go_sem, seval, am_, as_]; rfl) ?_ ?_)
  ·(first | trivial | (simp; done) | (simp only [T3_] at h16; have he := e2_ (show q.1 < s.length by omega); first | exact ⟨by omega, hI.2.1⟩ | exact ⟨by omega, by omega⟩ | (refine ⟨by omega, by omega, by omega, by omega, by simp⟩) | (refine ⟨⟨⟨by omega, by omega, by omega, by omega, by simp⟩, rfl⟩, ?_⟩; simp; omega)))
  refine .ret ⟨.inr rfl, ?_⟩
  exact Out.plainL (by simp only [Tryz.results108]; rfl) (by simp only [az_, bj_, go_sem, seval, am_, as_] <;> (split <;> rfl)) (by simp only [bg_, go_sem, seval, am_, as_] <;> (simp only [T3_] at h11; rw [l4_ (by omega)]; simp [tkR, ler])) (by simp only [go_sem, seval, am_, as_])
 ·refine .skip (.seq (.rgn [] (by simp only [go_sem, seval, am_, as_]; rfl) ?_ ?_))
  ·(first | trivial | (simp; done) | (simp only [T3_] at h16; have he := e2_ (show q.1 < s.length by omega); first | exact ⟨by omega, hI.2.1⟩ | exact ⟨by omega, by omega⟩ | (refine ⟨by omega, by omega, by omega, by omega, by simp⟩) | (refine ⟨⟨⟨by omega, by omega, by omega, by omega, by simp⟩, rfl⟩, ?_⟩; simp; omega)))
  refine .seq (.block (.loopK (fun q : Nat × List Tk => ⟨[.s s, .no, .no, .no, .ow 60 3 0 q.2.length, .i .i64 q.1, .no, .no, .no, .no, .no, .no, .no, .no, .no, .no, .no, .no, .no, .no, .no, .no, .no, .no, .no, .no, .no, .no, .no, .no, .no, .no, .no, .no, .no, .no, .no, .no, .no, .no, .no, .no, .no, .no], a7_ [(60, ⟨100, 3, tkR q.2⟩)], us [60]⟩) (fun q : Nat × List Tk => q.1 ≤ s.length ∧ s.length ≤ 120 ∧ q.2.length ≤ q.1 ∧ fa_ s.length s 0 = (fa_ (s.drop q.1).length (s.drop q.1) q.1).map (q.2 ++ ·)) (fun q : Nat × List Tk => s.length - q.1) ((0, [])) ?_ ?_ (fun q hI => ?_)))
  ·simp at h11; simp; omega
  ·refine Can.trans (Can.ownSlot 4 60 100 3 (by simp only [go_sem, seval, am_, as_] <;> rfl) (by simp only [go_sem, seval, am_, as_]) (by simp only [go_sem, seval, am_, as_] <;> rfl)) ?_
   exact Can.weak (Weak.lit (by simp only [go_sem, seval, am_, as_, at_, leV, aq_, ar_, V.inn, us, T9_, Ta_] <;> ((try simp))) (by simp only [go_sem, seval, am_, as_, at_, leV, aq_, ar_, V.inn, us, T9_, Ta_]) (by simp only [go_sem, seval, am_, as_, at_, leV, aq_, ar_, V.inn, us, T9_, Ta_] <;> (simp [tkR])))
  refine .seq (.seq (.rgn [] (by simp only [go_sem, seval, am_, as_]; rfl) ?_ ?_))
  ·(first | trivial | (simp; done) | (simp only [T3_] at h16; have he := e2_ (show q.1 < s.length by omega); first | exact ⟨by omega, hI.2.1⟩ | exact ⟨by omega, by omega⟩ | (refine ⟨by omega, by omega, by omega, by omega, by simp⟩) | (refine ⟨⟨⟨by omega, by omega, by omega, by omega, by simp⟩, rfl⟩, ?_⟩; simp; omega)))
  refine .condB (by simp only [go_sem, seval, am_, as_]; rfl) (by simp only [go_sem, seval, am_, as_]) (fun h16 => ?_) (fun h16 => ?_)
  ·refine .skip (.block (.seq (.rgn [cw_ (q.1 < s.length ∧ s.length ≤ 120) (fun h => agz_ s q.1 h.1 (by omega))] (by simp only [go_sem, seval, am_, as_]; rfl) ?_ ?_)))
   ·(first | trivial | (simp; done) | (simp only [T3_] at h16; have he := e2_ (show q.1 < s.length by omega); first | exact ⟨by omega, hI.2.1⟩ | exact ⟨by omega, by omega⟩ | (refine ⟨by omega, by omega, by omega, by omega, by simp⟩) | (refine ⟨⟨⟨by omega, by omega, by omega, by omega, by simp⟩, rfl⟩, ?_⟩; simp; omega)))
   refine .seqJ (fun p : List Tk => ⟨[.s s, .no, .no, .no, .ow 60 3 0 p.length, .no, .i .i64 ((q.1 + db_ (s.drop q.1) : Nat) : Int), .no, .no, .no, .no, .no, .no, .no, .no, .no, .no, .no, .no, .no, .no, .no, .no, .no, .no, .no, .no, .no, .no, .no, .no, .no, .no, .no, .no, .no, .no, .no, .no, .no, .no, .no, .no, .no], a7_ [(60, ⟨100, 3, tkR p⟩)], us [60]⟩) (fun p : List Tk => p.length ≤ q.1 + 1 ∧ fa_ s.length s 0 = (fa_ (s.drop (q.1 + db_ (s.drop q.1))).length (s.drop (q.1 + db_ (s.drop q.1))) ((q.1 + db_ (s.drop q.1) : Nat) : Int)).map (p ++ ·)) ?_ (fun p hJ => ?_)
   ·refine .seq (.rgn [] (by simp only [go_sem, seval, am_, as_]; rfl) ?_ ?_)
    ·(first | trivial | (simp; done) | (simp only [T3_] at h16; have he := e2_ (show q.1 < s.length by omega); first | exact ⟨by omega, hI.2.1⟩ | exact ⟨by omega, by omega⟩ | (refine ⟨by omega, by omega, by omega, by omega, by simp⟩) | (refine ⟨⟨⟨by omega, by omega, by omega, by omega, by simp⟩, rfl⟩, ?_⟩; simp; omega)))
    refine .condB (by simp only [go_sem, seval, am_, as_]; rfl) (by simp only [go_sem, seval, am_, as_]) (fun h23 => ?_) (fun h23 => ?_)
    ·refine .seq (.rgn [a9_ (x3_ ((s.drop q.1).take (db_ (s.drop q.1))) (by simp; omega))] (by simp only [go_sem, seval, am_, as_, qd_]; rfl) ?_ ?_)
     ·(first | trivial | (simp; done) | (simp only [T3_] at h16; have he := e2_ (show q.1 < s.length by omega); first | exact ⟨by omega, hI.2.1⟩ | exact ⟨by omega, by omega⟩ | (refine ⟨by omega, by omega, by omega, by omega, by simp⟩) | (refine ⟨⟨⟨by omega, by omega, by omega, by omega, by simp⟩, rfl⟩, ?_⟩; simp; omega)))
     refine .seq (.seq (.rgn [] (by simp only [go_sem, seval, am_, as_]; rfl) ?_ ?_))
     ·(first | trivial | (simp; done) | (simp only [T3_] at h16; have he := e2_ (show q.1 < s.length by omega); first | exact ⟨by omega, hI.2.1⟩ | exact ⟨by omega, by omega⟩ | (refine ⟨by omega, by omega, by omega, by omega, by simp⟩) | (refine ⟨⟨⟨by omega, by omega, by omega, by omega, by simp⟩, rfl⟩, ?_⟩; simp; omega)))
     refine .condB (by simp only [go_sem, seval, am_, as_]; rfl) (by simp only [go_sem, seval, am_, as_]) (fun h30 => ?_) (fun h30 => ?_)
     ·refine .seq (.rgn [] (by simp only [go_sem, seval, am_, as_]; rfl) ?_ ?_)
      ·(first | trivial | (simp; done) | (simp only [T3_] at h16; have he := e2_ (show q.1 < s.length by omega); first | exact ⟨by omega, hI.2.1⟩ | exact ⟨by omega, by omega⟩ | (refine ⟨by omega, by omega, by omega, by omega, by simp⟩) | (refine ⟨⟨⟨by omega, by omega, by omega, by omega, by simp⟩, rfl⟩, ?_⟩; simp; omega)))
      refine .ret ⟨.inr rfl, ?_⟩
      exact Out.plainL (by simp only [Tryz.results108]; rfl) (by simp only [az_, bj_, go_sem, seval, am_, as_] <;> (split <;> rfl)) (by simp only [bg_, go_sem, seval, am_, as_] <;> (simp only [T3_] at h16; have e := qc_ (show q.1 < s.length by omega) q.1; rw [if_neg (fun h => by have := (ho_ (by omega)).1 h; rw [this] at h23; simp at h23), if_pos (by simpa using h30)] at e; rw [gy_ hI.2.1, hI.2.2.2, e]; simp [tkR, ler])) (by simp only [go_sem, seval, am_, as_])
     ·refine .skip (.rgn [] (by simp only [go_sem, seval, am_, as_, qd_]; rfl) ?_ ?_)
      ·(first | trivial | (simp; done) | (simp only [T3_] at h16; have he := e2_ (show q.1 < s.length by omega); first | exact ⟨by omega, hI.2.1⟩ | exact ⟨by omega, by omega⟩ | (refine ⟨by omega, by omega, by omega, by omega, by simp⟩) | (refine ⟨⟨⟨by omega, by omega, by omega, by omega, by simp⟩, rfl⟩, ?_⟩; simp; omega)))
      refine Exists.intro (q.2 ++ [⟨da_ ((s.drop q.1).take (db_ (s.drop q.1))), (s.drop q.1).take (db_ (s.drop q.1)), q.1⟩]) ⟨?_, ?_⟩
      ·simp only [T3_] at h16; obtain ⟨i1, i2, i3, i4⟩ := hI; have e := qc_ (show q.1 < s.length by omega) q.1; first | (rw [if_neg (fun h => by have := (ho_ (by omega)).1 h; rw [this] at h23; simp at h23), if_neg (by simpa using h30)] at e; exact ⟨by simp only [T2_, List.length_singleton]; omega, by rw [i4, e, Option.map_map]; simp [Function.comp_def]⟩) | (rw [if_pos ((ho_ (by omega)).2 (by simpa using h23))] at e; exact ⟨by omega, by rw [i4, e]; rfl⟩)
      refine Can.trans (Can.swap 51 60 (by decide) (by decide) (by decide) (by decide) (by simp only [go_sem, seval, am_, as_, V.cl]) (by simp only [go_sem, seval, am_, as_, V.cl]) (by simp only [go_sem, seval, am_, as_, by_, sw, swM, rnB] <;> rfl) (by simp only [go_sem, seval, am_, as_, by_, sw, swM, rnB] <;> rfl) (by simp only [go_sem, seval, am_, as_, by_, sw, swM, rnB] <;> rfl)) ?_
      exact Can.weak (Weak.lit (by simp only [go_sem, seval, am_, as_, at_, leV, aq_, ar_, V.inn, us, T9_, Ta_] <;> ((try simp))) (by simp only [go_sem, seval, am_, as_, at_, leV, aq_, ar_, V.inn, us, T9_, Ta_]) (by simp only [go_sem, seval, am_, as_, at_, leV, aq_, ar_, V.inn, us, T9_, Ta_] <;> ((try simp [o2_]))))
    ·refine .skip ?_
     refine Exists.intro (q.2) ⟨?_, ?_⟩
     ·simp only [T3_] at h16; obtain ⟨i1, i2, i3, i4⟩ := hI; have e := qc_ (show q.1 < s.length by omega) q.1; first | (rw [if_neg (fun h => by have := (ho_ (by omega)).1 h; rw [this] at h23; simp at h23), if_neg (by simpa using h30)] at e; exact ⟨by simp only [T2_, List.length_singleton]; omega, by rw [i4, e, Option.map_map]; simp [Function.comp_def]⟩) | (rw [if_pos ((ho_ (by omega)).2 (by simpa using h23))] at e; exact ⟨by omega, by rw [i4, e]; rfl⟩)
     exact Can.weak (Weak.lit (by simp only [go_sem, seval, am_, as_, at_, leV, aq_, ar_, V.inn, us, T9_, Ta_] <;> ((try simp))) (by simp only [go_sem, seval, am_, as_, at_, leV, aq_, ar_, V.inn, us, T9_, Ta_]) (by simp only [go_sem, seval, am_, as_, at_, leV, aq_, ar_, V.inn, us, T9_, Ta_] <;> ((try simp [o2_]))))
   refine .rgn [] (by simp only [go_sem, seval, am_, as_]; rfl) ?_ ?_
   ·(first | trivial | (simp; done) | (simp only [T3_] at h16; have he := e2_ (show q.1 < s.length by omega); first | exact ⟨by omega, hI.2.1⟩ | exact ⟨by omega, by omega⟩ | (refine ⟨by omega, by omega, by omega, by omega, by simp⟩) | (refine ⟨⟨⟨by omega, by omega, by omega, by omega, by simp⟩, rfl⟩, ?_⟩; simp; omega)))
   refine Exists.intro ((q.1 + db_ (s.drop q.1), p)) ⟨?_, ?_, ?_⟩
   ·simp only [T3_] at h16; have he := e2_ (show q.1 < s.length by omega); exact ⟨by dsimp only; omega, hI.2.1, by dsimp only; have := hJ.1; omega, hJ.2⟩
   ·simp only [T3_] at h16; have := e2_ (show q.1 < s.length by omega); dsimp only; omega
   exact Can.weak (Weak.lit (by simp only [go_sem, seval, am_, as_, at_, leV, aq_, ar_, V.inn, us, T9_, Ta_] <;> ((try simp))) (by simp only [go_sem, seval, am_, as_, at_, leV, aq_, ar_, V.inn, us, T9_, Ta_]) (by simp only [go_sem, seval, am_, as_, at_, leV, aq_, ar_, V.inn, us, T9_, Ta_] <;> ((try simp))))
  ·refine .exit (.seq (.rgn [] (by simp only [go_sem, seval, am_, as_]; rfl) ?_ ?_))
   ·(first | trivial | (simp; done) | (simp only [T3_] at h16; have he := e2_ (show q.1 < s.length by omega); first | exact ⟨by omega, hI.2.1⟩ | exact ⟨by omega, by omega⟩ | (refine ⟨by omega, by omega, by omega, by omega, by simp⟩) | (refine ⟨⟨⟨by omega, by omega, by omega, by omega, by simp⟩, rfl⟩, ?_⟩; simp; omega)))
   refine .frz 60 (by simp only [go_sem, seval, am_, as_]; rfl) (by simp only [go_sem, seval, am_, as_]) (by simp only [go_sem, seval, am_, as_]; rfl) (by simp only [go_sem, seval, am_, as_]; rfl) ?_
   refine .ret ⟨.inr rfl, ?_⟩
   exact Out.plainL (by simp only [Tryz.results108]; rfl) (by simp only [az_, bj_, go_sem, seval, am_, as_] <;> (split <;> rfl)) (by simp only [bg_, go_sem, seval, am_, as_] <;> (simp only [T4_] at h16; rw [gy_ hI.2.1, hI.2.2.2, re_ (by omega)]; simp [T1_, as_, leV, ap_])) (by simp only [go_sem, seval, am_, as_])
end
section
set_option maxRecDepth 100000
set_option maxHeartbeats 4000000
end
section
set_option maxRecDepth 100000
set_option maxHeartbeats 4000000
theorem ahn_ {α : Type} {d : α} {a b : List α} {k : Nat} (ha : k < a.length) (hb : k < b.length) (h : a.take k = b.take k) (e : a.getD k d = b.getD k d) : a.take (k + 1) = b.take (k + 1) := by
 rw [List.take_add_one (l := a), List.take_add_one (l := b), h, T6_ ha, T6_ hb]
 rw [T8_, T8_, T6_ ha, T6_ hb] at e
 rw [show a[k] = b[k] by simpa using e]
end
end Go.Proofs.YtcigkafioinfoaaGreatDoor
