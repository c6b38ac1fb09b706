/- Numbers and words of a line: the reference's l12Num, l3Num, TokOk, TokKind, l3Class. Conditions: none. -/
import Derived.Test.YtefmbmafdgedmaaGreatDoorNn
import Derived.Test.YtefmbmafdgedmaaGreatDoorNg
import Derived.Test.YtefmbmafdgedmaaGreatDoorNd
import Derived.Test.YtefmbmafdgedmaaGreatDoorNb
import Derived.Test.YtefmbmafdgedmaaGreatDoorN1
set_option linter.unusedVariables false
set_option linter.unusedSimpArgs false
namespace Go.Proofs.YtefmbmafdgedmaaGreatDoor
section
set_option maxRecDepth 100000
set_option maxHeartbeats 4000000
theorem jl_ (s : Str) : (decide ((s.length : Int) > 0) && (((s.getD 0 0).toNat : Int) == 45)) = (s.head? == some 45) := by
 cases s with
 | nil => rfl
 | cons c r =>
  have h : decide (((c :: r).length : Int) > 0) = true := by simp only [List.length_cons, decide_eq_true_eq]; omega
  rw [h, Bool.true_and]
  simp only [List.getD_cons_zero, List.head?_cons]
  rw [Bool.eq_iff_iff]
  simp only [beq_iff_eq, Option.some.injEq]
  constructor
  ·intro e; apply UInt8.toNat_inj.1; show _ = 45; omega
  ·intro e; rw [e]; rfl
theorem p9_ : ∀ (k : Nat) (l : Str), k ≤ l.length → (l.take k).all cs_ = true → b8_ (l.take k) < 10 ^ k
 | 0, l, _, _ => by simp [b8_]
 | k + 1, l, hk, h => by
  have e : l.take (k + 1) = l.take k ++ [l.getD k 0] := by
   rw [List.take_add_one, List.getElem?_eq_getElem hk, List.getD_eq_getElem?_getD, List.getElem?_eq_getElem hk]; rfl
  rw [e, List.all_append, Bool.and_eq_true] at h
  have ih := p9_ k l (by omega) h.1
  rw [e, hg_, Nat.pow_succ]
  have hd : cs_ (l.getD k 0) = true := by simpa using h.2
  simp only [cs_, Bool.and_eq_true, decide_eq_true_eq] at hd
  omega
theorem abz_ {l : Str} {k : Nat} (hk : k < l.length) : b8_ (l.take (k + 1)) = b8_ (l.take k) * 10 + ((l.getD k 0).toNat - 48) := by
 have e : l.take (k + 1) = l.take k ++ [l.getD k 0] := by
  rw [List.take_add_one, List.getElem?_eq_getElem hk, List.getD_eq_getElem?_getD, List.getElem?_eq_getElem hk]; rfl
 rw [e, hg_]
theorem acs_ {l : Str} {k : Nat} (hk : k ≤ l.length) (h17 : l.length ≤ 17) (h : (l.take k).all cs_ = true) : b8_ (l.take k) < 100000000000000000 := by
 have := p9_ k l hk h
 have h2 : 10 ^ k ≤ 10 ^ 17 := Nat.pow_le_pow_right (by decide) (by omega)
 have h3 : (10 : Nat) ^ 17 = 100000000000000000 := by decide
 omega
def iw_ (s : Str) : Bool := s.head? == some 45
def c7_ (s : Str) : Str := if iw_ s then s.tail else s
theorem pm_ (s : Str) : hu_ s = if (c7_ s).length = 0 ∨ 17 < (c7_ s).length ∨ ((c7_ s).head? = some 48 ∧ (1 < (c7_ s).length ∨ iw_ s = true)) then (0, false) else if (c7_ s).all cs_ then (if iw_ s then -(b8_ (c7_ s) : Int) else b8_ (c7_ s), true) else (0, false) := rfl
theorem adq_ (q : Str) (h : q ≠ []) : (((q.getD 0 0).toNat : Int) == 48) = decide (q.head? = some 48) := by
 cases q with
 | nil => exact absurd rfl h
 | cons c r =>
  simp only [List.getD_cons_zero, List.head?_cons, Option.some.injEq]
  rw [Bool.eq_iff_iff]
  simp only [beq_iff_eq, decide_eq_true_eq]
  constructor
  ·intro e; apply UInt8.toNat_inj.1; show _ = 48; omega
  ·intro e; rw [e]; rfl
theorem ab8_ (q : Str) (n : Bool) : (((q.length : Int) == 0) || decide ((q.length : Int) > 17) || (((q.getD 0 0).toNat : Int) == 48) && (decide ((q.length : Int) > 1) || n)) = decide (q.length = 0 ∨ 17 < q.length ∨ (q.head? = some 48 ∧ (1 < q.length ∨ n = true))) := by
 by_cases hq : q = []
 ·subst hq; simp
 ·rw [adq_ q hq, Bool.eq_iff_iff]
  simp only [Bool.or_eq_true, Bool.and_eq_true, beq_iff_eq, decide_eq_true_eq]
  constructor
  ·rintro ((h | h) | ⟨h1, h2 | h2⟩)
   ·exact .inl (by omega)
   ·exact .inr (.inl (by omega))
   ·exact .inr (.inr ⟨h1, .inl (by omega)⟩)
   ·exact .inr (.inr ⟨h1, .inr h2⟩)
  ·rintro (h | h | ⟨h1, h2 | h2⟩)
   ·exact .inl (.inl (by omega))
   ·exact .inl (.inr (by omega))
   ·exact .inr ⟨h1, .inl (by omega)⟩
   ·exact .inr ⟨h1, .inr h2⟩
theorem v4_ {s : Str} (h : (((c7_ s).length : Int) == 0 || decide (((c7_ s).length : Int) > 17) || ((((c7_ s).getD 0 0).toNat : Int) == 48) && (decide (((c7_ s).length : Int) > 1) || iw_ s)) = true) : hu_ s = (0, false) := by
 rw [ab8_] at h
 rw [pm_, if_pos (of_decide_eq_true h)]
theorem oi_ {s : Str} (h : (((c7_ s).length : Int) == 0 || decide (((c7_ s).length : Int) > 17) || ((((c7_ s).getD 0 0).toNat : Int) == 48) && (decide (((c7_ s).length : Int) > 1) || iw_ s)) = false) : (c7_ s).length ≤ 17 ∧ hu_ s = (if (c7_ s).all cs_ then (if iw_ s then -(b8_ (c7_ s) : Int) else b8_ (c7_ s), true) else (0, false)) := by
 rw [ab8_] at h
 have := of_decide_eq_false h
 exact ⟨by omega, by rw [pm_, if_neg this]⟩
theorem w4_ (c : UInt8) : ∀ (s : Str) (k : Nat), k < s.length → c ∉ s.take k → s.getD k 0 = c → Lib.indexByte s c = k
 | [], k, h, _, _ => by simp at h
 | b :: s, 0, _, _, e => by
  simp only [List.getD_cons_zero] at e
  subst e
  unfold Lib.indexByte; simp
 | b :: s, k + 1, h, hn, e => by
  simp only [List.take_succ_cons, List.mem_cons, not_or] at hn
  have ih := w4_ c s k (by simpa using h) hn.2 (by simpa using e)
  unfold Lib.indexByte
  rw [if_neg (by simpa using fun q => hn.1 q.symm), ih, if_neg (by simp)]; rfl
theorem aeq_ (c : UInt8) (s : Str) (h : c ∉ s) : Lib.indexByte s c = -1 := by
 have h1 := nu_ s c
 have h2 : ¬ 0 ≤ Lib.indexByte s c := fun q => h ((r6_ s c).1 q)
 omega
theorem afk_ {a b : UInt8} (h : ((a.toNat : Int) == (b.toNat : Int)) = true) : a = b := by
 simp only [beq_iff_eq] at h
 apply UInt8.toNat_inj.1; omega
theorem ae4_ {a b : UInt8} (h : ((a.toNat : Int) == (b.toNat : Int)) = false) : a ≠ b := by
 rintro rfl; simp at h
theorem z7_ {s : Str} {k : Nat} {c : UInt8} (hk : k < s.length) (h : c ∉ s.take k) (h2 : s.getD k 0 ≠ c) : c ∉ s.take (k + 1) := by
 rw [List.take_add_one, List.getElem?_eq_getElem hk]
 rw [List.getD_eq_getElem?_getD, List.getElem?_eq_getElem hk] at h2
 simp only [Option.toList, List.mem_append, List.mem_cons, List.not_mem_nil, or_false, not_or]
 exact ⟨h, fun e => h2 e.symm⟩
theorem z9_ {c : UInt8} (h : (decide ((c.toNat : Int) < 48) || decide ((c.toNat : Int) > 57)) = true) : cs_ c = false := by
 simp only [Bool.or_eq_true, decide_eq_true_eq] at h
 rw [Bool.eq_false_iff]
 intro q
 simp only [cs_, Bool.and_eq_true, decide_eq_true_eq] at q
 omega
theorem p2_ {c : UInt8} (h : (decide ((c.toNat : Int) < 48) || decide ((c.toNat : Int) > 57)) = false) : cs_ c = true ∧ 48 ≤ c.toNat ∧ c.toNat ≤ 57 := by
 simp only [Bool.or_eq_false_iff, decide_eq_false_iff_not] at h
 simp only [cs_, Bool.and_eq_true, decide_eq_true_eq]
 omega
theorem ag7_ {n : Int} (h1 : 0 ≤ n) (h2 : n < 256) : IntKind.u8.wrap n = n := by
 have e : (2 : Int) ^ IntKind.u8.bits = 256 := rfl
 have e' : IntKind.u8.signed = false := rfl
 simp only [IntKind.wrap, e, e', Bool.false_and, Bool.false_eq_true, if_false]
 omega
theorem aef_ {q : Str} {k : Nat} (hk : k < q.length) : (q.take (k + 1)).all cs_ = ((q.take k).all cs_ && cs_ (q.getD k 0)) := by
 rw [List.take_add_one, List.getElem?_eq_getElem hk, List.all_append, List.getD_eq_getElem?_getD, List.getElem?_eq_getElem hk]; simp
theorem uv_ (s : Str) (hs : s.length ≤ 281474976710656) : ACall En 236 [.s s] [] [.i .i64 (hu_ s).1, .b (hu_ s).2] [] := by
 have hq : (c7_ s).length ≤ s.length := by unfold c7_; split <;> simp
 have hN := pm_ s
 refine ah_ (fn := Tryz.f236) [] Tryz.func236 rfl rfl (by simp) fun C => ?_
 rw [ar_]
 simp only [Tryz.ntmps236, List.length_cons, List.length_nil, Nat.reduceAdd, Nat.reduceSub, List.replicate_succ, List.replicate_zero, List.cons_append, List.nil_append, bd_]
 refine .seq (.rgn [] (by simp only [go_sem, seval]; rfl) ?_ ?_)
 ·first | trivial | simp
 refine .seq (.rgn [] (by simp only [go_sem, seval]; rfl) ?_ ?_)
 ·first | trivial | simp
 refine .seqJ (fun q : Str => ⟨[.s q, .no, .no, .no, .b (iw_ s), .no, .no, .no, .no, .no, .no, .no, .no, .no, .no, .no, .no, .no, .no, .no, .no, .no, .no, .no, .no, .no, .no, .no, .no, .no, .no, .no, .no, .no, .no, .no, .no, .no, .no, .no, .no, .no, .no, .no, .no, .no, .no, .no, .no, .no, .no, .no, .no, .no, .no, .no, .no, .no, .no, .no, .no, .no, .no, .no, .no, .no, .no], aw_ [], us []⟩) (fun q : Str => q = c7_ s) ?_ (fun q hJ => ?_)
 ·refine .seq (.rgn [] (by simp only [go_sem, seval]; rfl) ?_ ?_)
  ·first | trivial | simp
  refine .condB (by simp only [go_sem, seval]; rfl) (by simp only [go_sem, seval]) (fun h15 => ?_) (fun h15 => ?_)
  ·refine .rgn [] (by simp only [go_sem, seval]; rfl) ?_ ?_
   ·rw [Bool.and_eq_true] at h15; have h0 := of_decide_eq_true h15.1; omega
   refine Exists.intro (s.drop 1) ⟨?_, ?_⟩
   ·rw [jl_] at h15; unfold c7_ iw_; rw [h15]; simp
   exact Can.weak (Weak.lit (by simp only [go_sem, seval, an_, leV, al_, am_, V.inn, us, true_or, or_true] <;> (first | (refine ⟨by simp [List.take_of_length_le], ?_⟩; rw [jl_]; rfl) | (rw [jl_]; rfl))) (by simp only [go_sem, seval, an_, leV, al_, am_, V.inn, us, true_or, or_true]) (by simp only [go_sem, seval, an_, leV, al_, am_, V.inn, us, true_or, or_true]))
  ·refine .skip ?_
   refine Exists.intro (s) ⟨?_, ?_⟩
   ·rw [jl_] at h15; unfold c7_ iw_; rw [h15]; simp
   exact Can.weak (Weak.lit (by simp only [go_sem, seval, an_, leV, al_, am_, V.inn, us, true_or, or_true] <;> (first | (refine ⟨by simp [List.take_of_length_le], ?_⟩; rw [jl_]; rfl) | (rw [jl_]; rfl))) (by simp only [go_sem, seval, an_, leV, al_, am_, V.inn, us, true_or, or_true]) (by simp only [go_sem, seval, an_, leV, al_, am_, V.inn, us, true_or, or_true]))
 refine .seq (.seq (.rgn [] (by simp only [go_sem, seval]; rfl) ?_ ?_))
 ·refine ⟨⟨⟨⟨fun h => by rw [h]; rfl, fun h => ⟨h, by simp only [Bool.not_eq_true', Bool.or_eq_false_iff, beq_eq_false_iff_ne] at h; have := h.1; omega⟩⟩, fun h => ⟨h, fun h2 => by rw [h, h2]; rfl⟩⟩, fun h => ⟨h, fun h2 => by rw [h, h2]; rfl⟩⟩, fun h => by rw [h]; rfl⟩
 refine .condB (by simp only [go_sem, seval]; rfl) (by simp only [go_sem, seval]) (fun h38 => ?_) (fun h38 => ?_)
 ·refine .seq (.rgn [] (by simp only [go_sem, seval]; rfl) ?_ ?_)
  ·first | trivial | simp
  refine .ret ⟨.inr rfl, ?_⟩
  exact Out.plain (by simp only [Tryz.results236]; rfl) (by simp only [aq_, a8_, go_sem, seval] <;> (split <;> rfl)) (by simp only [a7_, go_sem, seval] <;> (subst hJ; rw [v4_ h38])) (by simp only [go_sem, seval])
 ·refine .skip (.seq (.rgn [] (by simp only [go_sem, seval]; rfl) ?_ ?_))
  ·first | trivial | simp
  refine .seq (.seq (.rgn [] (by simp only [go_sem, seval]; rfl) ?_ ?_))
  ·first | trivial | simp
  refine .block (.loopK (fun k : Nat => ⟨[.s q, .no, .no, .no, .b (iw_ s), .i .i64 (b8_ (q.take k)), .i .i64 k, .no, .no, .no, .no, .no, .no, .no, .no, .no, .no, .no, .no, .no, .no, .no, .no, .no, .no, .no, .no, .no, .no, .no, .no, .no, .no, .no, .no, .no, .no, .no, .no, .no, .no, .no, .no, .no, .no, .no, .no, .no, .no, .no, .no, .no, .no, .no, .no, .no, .no, .no, .no, .no, .no, .no, .no, .no, .no, .no, .no], aw_ [], us []⟩) (fun k : Nat => k ≤ q.length ∧ q.length ≤ 17 ∧ (q.take k).all cs_ = true) (fun k : Nat => q.length - k) (0) ?_ ?_ (fun k hI => ?_))
  ·subst hJ; exact ⟨Nat.zero_le _, (oi_ h38).1, by simp⟩
  ·exact Can.weak (Weak.lit (by simp only [go_sem, seval, an_, leV, al_, am_, V.inn, us, true_or, or_true] <;> (simp [b8_])) (by simp only [go_sem, seval, an_, leV, al_, am_, V.inn, us, true_or, or_true]) (by simp only [go_sem, seval, an_, leV, al_, am_, V.inn, us, true_or, or_true]))
  refine .seq (.seq (.rgn [] (by simp only [go_sem, seval]; rfl) ?_ ?_))
  ·first | trivial | simp
  refine .condB (by simp only [go_sem, seval]; rfl) (by simp only [go_sem, seval]) (fun h42 => ?_) (fun h42 => ?_)
  ·refine .skip (.seq (.block (.seq (.seq (.rgn [] (by simp only [go_sem, seval]; rfl) ?_ ?_)))))
   ·simp only [decide_eq_true_eq] at h42; exact ⟨⟨⟨by omega, by omega⟩, fun h => ⟨h, by omega, by omega⟩⟩, fun h => by rw [h]; rfl⟩
   refine .condB (by simp only [go_sem, seval]; rfl) (by simp only [go_sem, seval]) (fun h54 => ?_) (fun h54 => ?_)
   ·refine .seq (.rgn [] (by simp only [go_sem, seval]; rfl) ?_ ?_)
    ·first | trivial | simp
    refine .ret ⟨.inr rfl, ?_⟩
    exact Out.plain (by simp only [Tryz.results236]; rfl) (by simp only [aq_, a8_, go_sem, seval] <;> (split <;> rfl)) (by simp only [a7_, go_sem, seval] <;> (subst hJ; simp only [decide_eq_true_eq] at h42; rw [(oi_ h38).2, if_neg]; intro h; have := List.all_eq_true.1 h _ (bo_ (d := 0) (show k < (c7_ s).length by omega)); rw [z9_ h54] at this; cases this)) (by simp only [go_sem, seval])
   ·refine .skip (.rgn [] (by simp only [go_sem, seval]; rfl) ?_ ?_)
    ·simp only [decide_eq_true_eq] at h42; exact ⟨by omega, by omega⟩
    refine .rgn [] (by simp only [go_sem, seval]; rfl) ?_ ?_
    ·first | trivial | simp
    refine Exists.intro (k + 1) ⟨?_, ?_, ?_⟩
    ·simp only [decide_eq_true_eq] at h42; exact ⟨by omega, hI.2.1, by rw [aef_ (by omega), hI.2.2, (p2_ h54).1]; rfl⟩
    ·simp at h42; omega
    exact Can.weak (Weak.lit (by simp only [go_sem, seval, an_, leV, al_, am_, V.inn, us, true_or, or_true] <;> ((simp only [decide_eq_true_eq] at h42); (have hb := acs_ hI.1 hI.2.1 hI.2.2); (have hd := p2_ h54); rw [ag7_ (by omega) (by omega), bc_ (show -9223372036854775808 ≤ (((q.getD k 0).toNat : Int) - 48) by omega) (by omega), bc_ (show -9223372036854775808 ≤ ((b8_ (q.take k) : Int) * 10) by omega) (by omega), bc_ (by omega) (by omega), bc_ (by omega) (by omega), abz_ (show k < q.length by omega)]; omega)) (by simp only [go_sem, seval, an_, leV, al_, am_, V.inn, us, true_or, or_true]) (by simp only [go_sem, seval, an_, leV, al_, am_, V.inn, us, true_or, or_true]))
  ·refine .exit (.seqJ (fun v : Int => ⟨[.no, .no, .no, .no, .no, .i .i64 v, .no, .no, .no, .no, .no, .no, .no, .no, .no, .no, .no, .no, .no, .no, .no, .no, .no, .no, .no, .no, .no, .no, .no, .no, .no, .no, .no, .no, .no, .no, .no, .no, .no, .no, .no, .no, .no, .no, .no, .no, .no, .no, .no, .no, .no, .no, .no, .no, .no, .no, .no, .no, .no, .no, .no, .no, .no, .no, .no, .no, .no], aw_ [], us []⟩) (fun v : Int => v = (if iw_ s then -(b8_ q : Int) else b8_ q) ∧ q.all cs_ = true) ?_ (fun v hJ => ?_))
   ·refine .seq (.rgn [] (by simp only [go_sem, seval]; rfl) ?_ ?_)
    ·first | trivial | simp
    refine .condB (by simp only [go_sem, seval]; rfl) (by simp only [go_sem, seval]) (fun h63 => ?_) (fun h63 => ?_)
    ·refine .rgn [] (by simp only [go_sem, seval]; rfl) ?_ ?_
     ·first | trivial | simp
     refine Exists.intro (-(b8_ q : Int)) ⟨?_, ?_⟩
     ·simp only [decide_eq_false_iff_not] at h42; (have h2 := hI.2.2); rw [List.take_of_length_le (by omega)] at h2; rw [h63]; exact ⟨by simp, h2⟩
     exact Can.weak (Weak.lit (by simp only [go_sem, seval, an_, leV, al_, am_, V.inn, us, true_or, or_true] <;> ((simp only [decide_eq_false_iff_not] at h42); (have hb := acs_ hI.1 hI.2.1 hI.2.2); rw [List.take_of_length_le (by omega)] at hb ⊢; (try first | (rw [bc_ (by omega) (by omega)] <;> omega) | rfl))) (by simp only [go_sem, seval, an_, leV, al_, am_, V.inn, us, true_or, or_true]) (by simp only [go_sem, seval, an_, leV, al_, am_, V.inn, us, true_or, or_true]))
    ·refine .skip ?_
     refine Exists.intro ((b8_ q : Int)) ⟨?_, ?_⟩
     ·simp only [decide_eq_false_iff_not] at h42; (have h2 := hI.2.2); rw [List.take_of_length_le (by omega)] at h2; rw [h63]; exact ⟨by simp, h2⟩
     exact Can.weak (Weak.lit (by simp only [go_sem, seval, an_, leV, al_, am_, V.inn, us, true_or, or_true] <;> ((simp only [decide_eq_false_iff_not] at h42); (have hb := acs_ hI.1 hI.2.1 hI.2.2); rw [List.take_of_length_le (by omega)] at hb ⊢; (try first | (rw [bc_ (by omega) (by omega)] <;> omega) | rfl))) (by simp only [go_sem, seval, an_, leV, al_, am_, V.inn, us, true_or, or_true]) (by simp only [go_sem, seval, an_, leV, al_, am_, V.inn, us, true_or, or_true]))
   refine .seq (.rgn [] (by simp only [go_sem, seval]; rfl) ?_ ?_)
   ·first | trivial | simp
   refine .ret ⟨.inr rfl, ?_⟩
   exact Out.plain (by simp only [Tryz.results236]; rfl) (by simp only [aq_, a8_, go_sem, seval] <;> (split <;> rfl)) (by simp only [a7_, go_sem, seval] <;> (obtain ⟨j1, j2⟩ := hJ; (have e : q = c7_ s := (by assumption)); subst e; rw [(oi_ h38).2, if_pos j2, ← j1])) (by simp only [go_sem, seval])
theorem w5_ (s : Str) (hs : s.length ≤ 281474976710656) : ACall En 222 [.s s] [] [.b (c2_ s)] [] := by
 have h := (tj_ s).1
 refine ah_ (fn := Tryz.f222) [] Tryz.func222 rfl rfl (by simp) fun C => ?_
 rw [ar_]
 simp only [Tryz.ntmps222, List.length_cons, List.length_nil, Nat.reduceAdd, Nat.reduceSub, List.replicate_succ, List.replicate_zero, List.cons_append, List.nil_append, bd_]
 refine .seq (.rgn [] (by simp only [go_sem, seval]; rfl) ?_ ?_)
 ·first | trivial | simp
 refine .seq (.rgn [a2_ (uv_ s hs)] (by simp only [go_sem, seval]; rfl) ?_ ?_)
 ·first | trivial | simp
 refine .seq (.rgn [] (by simp only [go_sem, seval]; rfl) ?_ ?_)
 ·first | trivial | simp
 refine .ret ⟨.inr rfl, ?_⟩
 exact Out.plain (by simp only [Tryz.results222]; rfl) (by simp only [aq_, a8_, go_sem, seval] <;> (split <;> rfl)) (by simp only [a7_, go_sem, seval] <;> (rw [← h]; simp [Bool.and_assoc])) (by simp only [go_sem, seval])
theorem qf_ : ACall En 221 [] [] [.s marks] [] := by
 refine ah_ (fn := Tryz.f221) [] Tryz.func221 rfl rfl (by simp) fun C => ?_
 rw [ar_]
 simp only [Tryz.ntmps221, List.length_cons, List.length_nil, Nat.reduceAdd, Nat.reduceSub, List.replicate_succ, List.replicate_zero, List.cons_append, List.nil_append, bd_]
 refine .seq (.rgn [] (by simp only [go_sem, seval]; rfl) ?_ ?_)
 ·first | trivial | simp
 refine .seq (.rgn [] (by simp only [go_sem, seval]; rfl) ?_ ?_)
 ·first | trivial | simp
 refine .ret ⟨.inr rfl, ?_⟩
 exact Out.plain (by simp only [Tryz.results221]; rfl) (by simp only [aq_, a8_, go_sem, seval] <;> (split <;> rfl)) (by simp only [a7_, go_sem, seval] <;> (rfl)) (by simp only [go_sem, seval])
theorem qj_ (s : Str) (c : UInt8) (hs : s.length ≤ 281474976710656) : ACall En 220 [.s s, .i .u8 c.toNat] [] [.i .i64 (Lib.indexByte s c)] [] := by
 refine ah_ (fn := Tryz.f220) [] Tryz.func220 rfl rfl (by simp) fun C => ?_
 rw [ar_]
 simp only [Tryz.ntmps220, List.length_cons, List.length_nil, Nat.reduceAdd, Nat.reduceSub, List.replicate_succ, List.replicate_zero, List.cons_append, List.nil_append, bd_]
 refine .seq (.rgn [] (by simp only [go_sem, seval]; rfl) ?_ ?_)
 ·(first | trivial | (simp; done) | (simp at h9; simp; omega))
 refine .seq (.seq (.rgn [] (by simp only [go_sem, seval]; rfl) ?_ ?_))
 ·(first | trivial | (simp; done) | (simp at h9; simp; omega))
 refine .block (.loopK (fun k : Nat => ⟨[.s s, .i .u8 c.toNat, .no, .no, .no, .i .i64 k, .no, .no, .no, .no, .no, .no, .no, .no, .no, .no, .no, .no], aw_ [], us []⟩) (fun k : Nat => k ≤ s.length ∧ c ∉ s.take k) (fun k : Nat => s.length - k) (0) ?_ ?_ (fun k hI => ?_))
 ·simp
 ·exact Can.weak (Weak.lit (by simp only [go_sem, seval, an_, leV, al_, am_, V.inn, us, true_or, or_true] <;> ((try simp))) (by simp only [go_sem, seval, an_, leV, al_, am_, V.inn, us, true_or, or_true]) (by simp only [go_sem, seval, an_, leV, al_, am_, V.inn, us, true_or, or_true]))
 refine .seq (.seq (.rgn [] (by simp only [go_sem, seval]; rfl) ?_ ?_))
 ·(first | trivial | (simp; done) | (simp at h9; simp; omega))
 refine .condB (by simp only [go_sem, seval]; rfl) (by simp only [go_sem, seval]) (fun h9 => ?_) (fun h9 => ?_)
 ·refine .skip (.seq (.block (.seq (.rgn [] (by simp only [go_sem, seval]; rfl) ?_ ?_))))
  ·(first | trivial | (simp; done) | (simp at h9; simp; omega))
  refine .condB (by simp only [go_sem, seval]; rfl) (by simp only [go_sem, seval]) (fun h16 => ?_) (fun h16 => ?_)
  ·refine .seq (.rgn [] (by simp only [go_sem, seval]; rfl) ?_ ?_)
   ·(first | trivial | (simp; done) | (simp at h9; simp; omega))
   refine .ret ⟨.inr rfl, ?_⟩
   exact Out.plain (by simp only [Tryz.results220]; rfl) (by simp only [aq_, a8_, go_sem, seval] <;> (split <;> rfl)) (by simp only [a7_, go_sem, seval] <;> (simp only [decide_eq_true_eq] at h9; rw [w4_ c s k (by omega) hI.2 (afk_ h16)])) (by simp only [go_sem, seval])
  ·refine .skip (.rgn [] (by simp only [go_sem, seval]; rfl) ?_ ?_)
   ·(first | trivial | (simp; done) | (simp at h9; simp; omega))
   refine Exists.intro (k + 1) ⟨?_, ?_, ?_⟩
   ·simp only [decide_eq_true_eq] at h9; exact ⟨by omega, z7_ (by omega) hI.2 (ae4_ h16)⟩
   ·simp at h9; omega
   exact Can.weak (Weak.lit (by simp only [go_sem, seval, an_, leV, al_, am_, V.inn, us, true_or, or_true] <;> (rw [bc_ (by simp at h9; omega) (by simp at h9; omega)]; simp)) (by simp only [go_sem, seval, an_, leV, al_, am_, V.inn, us, true_or, or_true]) (by simp only [go_sem, seval, an_, leV, al_, am_, V.inn, us, true_or, or_true]))
 ·refine .exit (.seq (.rgn [] (by simp only [go_sem, seval]; rfl) ?_ ?_))
  ·(first | trivial | (simp; done) | (simp at h9; simp; omega))
  refine .ret ⟨.inr rfl, ?_⟩
  exact Out.plain (by simp only [Tryz.results220]; rfl) (by simp only [aq_, a8_, go_sem, seval] <;> (split <;> rfl)) (by simp only [a7_, go_sem, seval] <;> (simp only [decide_eq_false_iff_not] at h9; have h2 := hI.2; rw [List.take_of_length_le (by omega)] at h2; rw [aeq_ c s h2])) (by simp only [go_sem, seval])
end
section
set_option maxRecDepth 100000
set_option maxHeartbeats 4000000
def dd_ (c : UInt8) : Int := if cx_ c then 1 else if cs_ c then 2 else if marks.contains c then 3 else if c = 32 then 4 else 0
theorem pz_ (c : UInt8) : ACall En 195 [.i .u8 c.toNat] [] [.i .i64 (dd_ c)] [] := by
 have hf : decide (Lib.indexByte marks c ≥ 0) = marks.contains c := ih_ marks c
 have h1 : (decide ((c.toNat : Int) ≥ 97) && decide ((c.toNat : Int) ≤ 122)) = cx_ c := rfl
 have h2 : (decide ((c.toNat : Int) ≥ 48) && decide ((c.toNat : Int) ≤ 57)) = cs_ c := rfl
 refine ah_ (fn := Tryz.f195) [] Tryz.func195 rfl rfl (by simp) fun C => ?_
 rw [ar_]
 simp only [Tryz.ntmps195, List.length_cons, List.length_nil, Nat.reduceAdd, Nat.reduceSub, List.replicate_succ, List.replicate_zero, List.cons_append, List.nil_append, bd_]
 refine .seq (.rgn [] (by simp only [go_sem, seval]; rfl) ?_ ?_)
 ·(first | trivial | (simp; done) | (intro h; rw [h]; rfl))
 refine .seq (.block (.seq (.rgn [] (by simp only [go_sem, seval]; rfl) ?_ ?_)))
 ·(first | trivial | (simp; done) | (intro h; rw [h]; rfl))
 refine .condB (by simp only [go_sem, seval]; rfl) (by simp only [go_sem, seval]) (fun h3 => ?_) (fun h3 => ?_)
 ·refine .seq (.rgn [] (by simp only [go_sem, seval]; rfl) ?_ ?_)
  ·(first | trivial | (simp; done) | (intro h; rw [h]; rfl))
  refine .ret ⟨.inr rfl, ?_⟩
  exact Out.plain (by simp only [Tryz.results195]; rfl) (by simp only [aq_, a8_, go_sem, seval] <;> (split <;> rfl)) (by simp only [a7_, go_sem, seval] <;> (rw [h1] at h3; unfold dd_; rw [if_pos h3])) (by simp only [go_sem, seval])
 ·refine .seq (.rgn [] (by simp only [go_sem, seval]; rfl) ?_ ?_)
  ·(first | trivial | (simp; done) | (intro h; rw [h]; rfl))
  refine .condB (by simp only [go_sem, seval]; rfl) (by simp only [go_sem, seval]) (fun h10 => ?_) (fun h10 => ?_)
  ·refine .seq (.rgn [] (by simp only [go_sem, seval]; rfl) ?_ ?_)
   ·(first | trivial | (simp; done) | (intro h; rw [h]; rfl))
   refine .ret ⟨.inr rfl, ?_⟩
   exact Out.plain (by simp only [Tryz.results195]; rfl) (by simp only [aq_, a8_, go_sem, seval] <;> (split <;> rfl)) (by simp only [a7_, go_sem, seval] <;> (rw [h1] at h3; rw [h2] at h10; unfold dd_; rw [if_neg (by simp [h3]), if_pos h10])) (by simp only [go_sem, seval])
  ·refine .seq (.rgn [a2_ qf_, a2_ (qj_ marks c (by decide))] (by simp only [go_sem, seval]; rfl) ?_ ?_)
   ·(first | trivial | (simp; done) | (intro h; rw [h]; rfl))
   refine .condB (by simp only [go_sem, seval]; rfl) (by simp only [go_sem, seval]) (fun h17 => ?_) (fun h17 => ?_)
   ·refine .seq (.rgn [] (by simp only [go_sem, seval]; rfl) ?_ ?_)
    ·(first | trivial | (simp; done) | (intro h; rw [h]; rfl))
    refine .ret ⟨.inr rfl, ?_⟩
    exact Out.plain (by simp only [Tryz.results195]; rfl) (by simp only [aq_, a8_, go_sem, seval] <;> (split <;> rfl)) (by simp only [a7_, go_sem, seval] <;> (rw [h1] at h3; rw [h2] at h10; rw [hf] at h17; unfold dd_; rw [if_neg (by simp [h3]), if_neg (by simp [h10]), if_pos h17])) (by simp only [go_sem, seval])
   ·refine .seq (.rgn [] (by simp only [go_sem, seval]; rfl) ?_ ?_)
    ·(first | trivial | (simp; done) | (intro h; rw [h]; rfl))
    refine .condB (by simp only [go_sem, seval]; rfl) (by simp only [go_sem, seval]) (fun h22 => ?_) (fun h22 => ?_)
    ·refine .seq (.rgn [] (by simp only [go_sem, seval]; rfl) ?_ ?_)
     ·(first | trivial | (simp; done) | (intro h; rw [h]; rfl))
     refine .ret ⟨.inr rfl, ?_⟩
     exact Out.plain (by simp only [Tryz.results195]; rfl) (by simp only [aq_, a8_, go_sem, seval] <;> (split <;> rfl)) (by simp only [a7_, go_sem, seval] <;> (rw [h1] at h3; rw [h2] at h10; rw [hf] at h17; unfold dd_; rw [if_neg (by simp [h3]), if_neg (by simp [h10]), if_neg (by rw [h17]; decide), if_pos (by apply UInt8.toNat_inj.1; show _ = 32; simp at h22; omega)])) (by simp only [go_sem, seval])
    ·refine .skip (.seq (.rgn [] (by simp only [go_sem, seval]; rfl) ?_ ?_))
     ·(first | trivial | (simp; done) | (intro h; rw [h]; rfl))
     refine .ret ⟨.inr rfl, ?_⟩
     exact Out.plain (by simp only [Tryz.results195]; rfl) (by simp only [aq_, a8_, go_sem, seval] <;> (split <;> rfl)) (by simp only [a7_, go_sem, seval] <;> (rw [h1] at h3; rw [h2] at h10; rw [hf] at h17; unfold dd_; rw [if_neg (by simp [h3]), if_neg (by simp [h10]), if_neg (by rw [h17]; decide), if_neg (by rintro rfl; simp at h22)])) (by simp only [go_sem, seval])
def exC (c : UInt8) (l : Str) : Nat := if dd_ c < 3 then (l.takeWhile fun x => dd_ x == dd_ c).length else 0
def c8_ (l : Str) : Nat := match l with | [] => 1 | c :: r => 1 + exC c r
theorem lh_ {s : Str} {k : Nat} (h : k < s.length) : s.drop k = s.getD k 0 :: s.drop (k + 1) := by
 rw [List.drop_eq_getElem_cons h, List.getD_eq_getElem?_getD, List.getElem?_eq_getElem h]; rfl
theorem ah9_ (c : UInt8) (l : Str) : exC c l ≤ l.length := by
 unfold exC; split
 ·exact (List.takeWhile_prefix _).length_le
 ·omega
theorem en_ {s : Str} {k : Nat} (h : k < s.length) : 1 ≤ c8_ (s.drop k) ∧ k + c8_ (s.drop k) ≤ s.length := by
 rw [lh_ h, c8_]
 have := ah9_ (s.getD k 0) (s.drop (k + 1))
 rw [List.length_drop] at this
 omega
theorem ahu_ {c : UInt8} {s : Str} {j : Nat} (h : j < s.length) (h1 : dd_ c < 3) (h2 : dd_ (s.getD j 0) = dd_ c) : exC c (s.drop j) = 1 + exC c (s.drop (j + 1)) := by
 unfold exC
 rw [if_pos h1, if_pos h1, lh_ h, List.takeWhile_cons, if_pos (by rw [h2]; exact beq_self_eq_true _)]
 simp; omega
theorem acb_ {c : UInt8} {s : Str} {j : Nat} (h : ¬ (j < s.length ∧ dd_ c < 3 ∧ dd_ (s.getD j 0) = dd_ c)) : exC c (s.drop j) = 0 := by
 unfold exC
 split
 ·rename_i h1
  rcases Nat.lt_or_ge j s.length with q | q
  ·rw [lh_ q, List.takeWhile_cons, if_neg (by simp; exact fun e => h ⟨q, h1, e⟩)]; rfl
  ·rw [List.drop_of_length_le q]; rfl
 ·rfl
theorem afy_ (s : Str) (k : Nat) (hk : k < s.length) (hs : s.length ≤ 1000000) : ACall En 150 [.s s, .i .i64 k] [] [.i .i64 ((k + c8_ (s.drop k) : Nat) : Int)] [] := by
 have hE : c8_ (s.drop k) = 1 + exC (s.getD k 0) (s.drop (k + 1)) := by rw [lh_ hk]; rfl
 refine ah_ (fn := Tryz.f150) [] Tryz.func150 rfl rfl (by simp) fun C => ?_
 rw [ar_]
 simp only [Tryz.ntmps150, List.length_cons, List.length_nil, Nat.reduceAdd, Nat.reduceSub, List.replicate_succ, List.replicate_zero, List.cons_append, List.nil_append, bd_]
 refine .seq (.rgn [] (by simp only [go_sem, seval]; rfl) ?_ ?_)
 ·first | trivial | simp
 refine .seq (.rgn [a2_ (pz_ (s.getD k 0))] (by simp only [go_sem, seval]; rfl) ?_ ?_)
 ·exact ⟨by omega, by omega⟩
 refine .seq (.rgn [] (by simp only [go_sem, seval]; rfl) ?_ ?_)
 ·first | trivial | simp
 refine .seq (.block (.loopK (fun j : Nat => ⟨[.s s, .no, .no, .no, .no, .i .i64 (dd_ (s.getD k 0)), .i .i64 j, .no, .no, .no, .no, .no, .no, .no, .no, .no, .no, .no, .no, .no, .no, .no, .no, .no, .no, .no, .no, .no, .no, .no, .no, .no], aw_ [], us []⟩) (fun j : Nat => k + 1 ≤ j ∧ j ≤ s.length ∧ k + 1 + exC (s.getD k 0) (s.drop (k + 1)) = j + exC (s.getD k 0) (s.drop j)) (fun j : Nat => s.length - j) (k + 1) ?_ ?_ (fun j hI => ?_)))
 ·exact ⟨Nat.le_refl _, hk, rfl⟩
 ·exact Can.weak (Weak.lit (by simp only [go_sem, seval, an_, leV, al_, am_, V.inn, us, true_or, or_true] <;> (rw [bc_ (by omega) (by omega)]; simp)) (by simp only [go_sem, seval, an_, leV, al_, am_, V.inn, us, true_or, or_true]) (by simp only [go_sem, seval, an_, leV, al_, am_, V.inn, us, true_or, or_true]))
 refine .seq (.seq (.rgn [c1_ (j < s.length) (fun _ => pz_ (s.getD j 0))] (by simp only [go_sem, seval]; rfl) ?_ ?_))
 ·exact ⟨fun h => ⟨h, by omega, by rw [Bool.and_eq_true] at h; exact of_decide_eq_true h.1⟩, fun h => ⟨h, by rw [Bool.and_eq_true] at h; have h0 := of_decide_eq_true h.1; omega⟩⟩
 refine .condB (by simp only [go_sem, seval]; rfl) (by simp only [go_sem, seval]) (fun h28 => ?_) (fun h28 => ?_)
 ·refine .skip (.block (.rgn [] (by simp only [go_sem, seval]; rfl) ?_ ?_))
  ·first | trivial | simp
  refine Exists.intro (j + 1) ⟨?_, ?_, ?_⟩
  ·rw [Bool.and_eq_true, Bool.and_eq_true] at h28; have a := of_decide_eq_true h28.1.1; have b := of_decide_eq_true h28.1.2; have c := beq_iff_eq.1 h28.2; have e := ahu_ (show j < s.length by omega) b c; exact ⟨by omega, by omega, by omega⟩
  ·rw [Bool.and_eq_true, Bool.and_eq_true] at h28; have a := of_decide_eq_true h28.1.1; omega
  exact Can.weak (Weak.lit (by simp only [go_sem, seval, an_, leV, al_, am_, V.inn, us, true_or, or_true] <;> (rw [bc_ (by omega) (by omega)]; simp)) (by simp only [go_sem, seval, an_, leV, al_, am_, V.inn, us, true_or, or_true]) (by simp only [go_sem, seval, an_, leV, al_, am_, V.inn, us, true_or, or_true]))
 ·refine .exit (.seq (.rgn [] (by simp only [go_sem, seval]; rfl) ?_ ?_))
  ·first | trivial | simp
  refine .ret ⟨.inr rfl, ?_⟩
  exact Out.plain (by simp only [Tryz.results150]; rfl) (by simp only [aq_, a8_, go_sem, seval] <;> (split <;> rfl)) (by simp only [a7_, go_sem, seval] <;> ((have e := acb_ (c := s.getD k 0) (s := s) (j := j) (fun q => by rw [decide_eq_true (show (j : Int) < s.length by omega), decide_eq_true q.2.1, q.2.2] at h28; simp at h28)); rw [hE, show k + (1 + exC (s.getD k 0) (s.drop (k + 1))) = j by omega])) (by simp only [go_sem, seval])
theorem yp_ (s : Str) : (((s.length : Int) == 1) && decide (Lib.indexByte marks (s.getD 0 0) ≥ 0)) = e0_ s := by
 unfold e0_
 rw [show decide (Lib.indexByte marks (s.getD 0 0) ≥ 0) = marks.contains (s.getD 0 0) from ih_ marks _]
 congr 1
 ·rw [Bool.eq_iff_iff]; simp; omega
 ·cases s <;> rfl
def j2_ (k : Int) (s : Str) : Bool := if k = 1 then eo_ s else if k = 2 then c2_ s else if k = 3 then e0_ s else false
theorem ac4_ (k : Int) (s : Str) (hs : s.length ≤ 281474976710656) : ACall En 196 [.i .i64 k, .s s] [] [.b (j2_ k s)] [] := by
 refine ah_ (fn := Tryz.f196) [] Tryz.func196 rfl rfl (by simp) fun C => ?_
 rw [ar_]
 simp only [Tryz.ntmps196, List.length_cons, List.length_nil, Nat.reduceAdd, Nat.reduceSub, List.replicate_succ, List.replicate_zero, List.cons_append, List.nil_append, bd_]
 refine .seq (.rgn [] (by simp only [go_sem, seval]; rfl) ?_ ?_)
 ·first | trivial | simp
 refine .seq (.seq (.rgn [] (by simp only [go_sem, seval]; rfl) ?_ ?_))
 ·first | trivial | simp
 refine .block (.seq (.rgn [] (by simp only [go_sem, seval]; rfl) ?_ ?_))
 ·first | trivial | simp
 refine .condB (by simp only [go_sem, seval]; rfl) (by simp only [go_sem, seval]) (fun h6 => ?_) (fun h6 => ?_)
 ·refine .seq (.rgn [a2_ (sv_ s (by omega))] (by simp only [go_sem, seval]; rfl) ?_ ?_)
  ·first | trivial | simp
  refine .ret ⟨.inr rfl, ?_⟩
  exact Out.plain (by simp only [Tryz.results196]; rfl) (by simp only [aq_, a8_, go_sem, seval] <;> (split <;> rfl)) (by simp only [a7_, go_sem, seval] <;> (simp at h6; simp [j2_, h6])) (by simp only [go_sem, seval])
 ·refine .seq (.rgn [] (by simp only [go_sem, seval]; rfl) ?_ ?_)
  ·first | trivial | simp
  refine .condB (by simp only [go_sem, seval]; rfl) (by simp only [go_sem, seval]) (fun h10 => ?_) (fun h10 => ?_)
  ·refine .seq (.rgn [a2_ (w5_ s hs)] (by simp only [go_sem, seval]; rfl) ?_ ?_)
   ·first | trivial | simp
   refine .ret ⟨.inr rfl, ?_⟩
   exact Out.plain (by simp only [Tryz.results196]; rfl) (by simp only [aq_, a8_, go_sem, seval] <;> (split <;> rfl)) (by simp only [a7_, go_sem, seval] <;> (simp at h6 h10; simp [j2_, h10])) (by simp only [go_sem, seval])
  ·refine .seq (.rgn [] (by simp only [go_sem, seval]; rfl) ?_ ?_)
   ·first | trivial | simp
   refine .condB (by simp only [go_sem, seval]; rfl) (by simp only [go_sem, seval]) (fun h14 => ?_) (fun h14 => ?_)
   ·refine .seq (.rgnD [a2_ qf_, c1_ (0 < s.length) (fun _ => qj_ marks (s.getD 0 0) (by decide))] enM (by simp only [go_sem, seval]; rfl) (by rfl) ?_ ?_)
    ·exact ⟨fun h => ⟨h, by have := beq_iff_eq.1 h; omega⟩, fun h => ⟨h, by have := beq_iff_eq.1 h; omega⟩⟩
    refine .ret ⟨.inr rfl, ?_⟩
    exact Out.plain (by simp only [Tryz.results196]; rfl) (by simp only [aq_, a8_, go_sem, seval] <;> (split <;> rfl)) (by simp only [a7_, go_sem, seval] <;> (simp at h6 h10 h14; simp [j2_, h14]; rw [← yp_]; simp)) (by simp only [go_sem, seval])
   ·refine .skip (.seq (.rgn [] (by simp only [go_sem, seval]; rfl) ?_ ?_))
    ·first | trivial | simp
    refine .ret ⟨.inr rfl, ?_⟩
    exact Out.plain (by simp only [Tryz.results196]; rfl) (by simp only [aq_, a8_, go_sem, seval] <;> (split <;> rfl)) (by simp only [a7_, go_sem, seval] <;> (simp at h6 h10 h14; simp [j2_, h6, h10, h14])) (by simp only [go_sem, seval])
theorem wd_ (s : Str) (hs : s.length ≤ 281474976710656) : ACall En 151 [.s s] [] [.i .i64 (da_ s)] [] := by
 refine ah_ (fn := Tryz.f151) [] Tryz.func151 rfl rfl (by simp) fun C => ?_
 rw [ar_]
 simp only [Tryz.ntmps151, List.length_cons, List.length_nil, Nat.reduceAdd, Nat.reduceSub, List.replicate_succ, List.replicate_zero, List.cons_append, List.nil_append, bd_]
 refine .seq (.rgn [] (by simp only [go_sem, seval]; rfl) ?_ ?_)
 ·first | trivial | simp
 refine .seq (.seq (.rgn [] (by simp only [go_sem, seval]; rfl) ?_ ?_))
 ·first | trivial | simp
 refine .block (.loopK (fun k : Nat => ⟨[.s s, .no, .no, .i .i64 k, .no, .no, .no, .no, .no, .no, .no, .no], aw_ [], us []⟩) (fun k : Nat => 1 ≤ k ∧ k ≤ 4 ∧ (2 ≤ k → eo_ s = false) ∧ (3 ≤ k → c2_ s = false) ∧ (4 ≤ k → e0_ s = false)) (fun k : Nat => 4 - k) (1) ?_ ?_ (fun k hI => ?_))
 ·exact ⟨by decide, by decide, fun h => by omega, fun h => by omega, fun h => by omega⟩
 ·exact Can.weak (Weak.lit (by simp only [go_sem, seval, an_, leV, al_, am_, V.inn, us, true_or, or_true] <;> (rfl)) (by simp only [go_sem, seval, an_, leV, al_, am_, V.inn, us, true_or, or_true]) (by simp only [go_sem, seval, an_, leV, al_, am_, V.inn, us, true_or, or_true]))
 refine .seq (.seq (.rgn [] (by simp only [go_sem, seval]; rfl) ?_ ?_))
 ·first | trivial | simp
 refine .condB (by simp only [go_sem, seval]; rfl) (by simp only [go_sem, seval]) (fun h5 => ?_) (fun h5 => ?_)
 ·refine .skip (.seq (.block (.seq (.rgn [a2_ (ac4_ k s hs)] (by simp only [go_sem, seval]; rfl) ?_ ?_))))
  ·first | trivial | simp
  refine .condB (by simp only [go_sem, seval]; rfl) (by simp only [go_sem, seval]) (fun h10 => ?_) (fun h10 => ?_)
  ·refine .seq (.rgn [] (by simp only [go_sem, seval]; rfl) ?_ ?_)
   ·first | trivial | simp
   refine .ret ⟨.inr rfl, ?_⟩
   exact Out.plain (by simp only [Tryz.results151]; rfl) (by simp only [aq_, a8_, go_sem, seval] <;> (split <;> rfl)) (by simp only [a7_, go_sem, seval] <;> (simp only [decide_eq_true_eq] at h5; unfold da_; rcases (show k = 1 ∨ k = 2 ∨ k = 3 by omega) with e | e | e <;> subst e <;> simp [j2_] at h10; (simp [h10]); (simp [h10, hI.2.2.1 (by omega)]); (simp [h10, hI.2.2.1 (by omega), hI.2.2.2.1 (by omega)]))) (by simp only [go_sem, seval])
  ·refine .skip (.rgn [] (by simp only [go_sem, seval]; rfl) ?_ ?_)
   ·first | trivial | simp
   refine Exists.intro (k + 1) ⟨?_, ?_, ?_⟩
   ·simp only [decide_eq_true_eq] at h5; rcases (show k = 1 ∨ k = 2 ∨ k = 3 by omega) with e | e | e <;> subst e <;> simp [j2_] at h10; exact ⟨by omega, by omega, fun _ => h10, fun h => by omega, fun h => by omega⟩; exact ⟨by omega, by omega, fun _ => hI.2.2.1 (by omega), fun _ => h10, fun h => by omega⟩; exact ⟨by omega, by omega, fun _ => hI.2.2.1 (by omega), fun _ => hI.2.2.2.1 (by omega), fun _ => h10⟩
   ·simp at h5; omega
   exact Can.weak (Weak.lit (by simp only [go_sem, seval, an_, leV, al_, am_, V.inn, us, true_or, or_true] <;> (rw [bc_ (by omega) (by omega)]; simp)) (by simp only [go_sem, seval, an_, leV, al_, am_, V.inn, us, true_or, or_true]) (by simp only [go_sem, seval, an_, leV, al_, am_, V.inn, us, true_or, or_true]))
 ·refine .exit (.seq (.rgn [] (by simp only [go_sem, seval]; rfl) ?_ ?_))
  ·first | trivial | simp
  refine .ret ⟨.inr rfl, ?_⟩
  exact Out.plain (by simp only [Tryz.results151]; rfl) (by simp only [aq_, a8_, go_sem, seval] <;> (split <;> rfl)) (by simp only [a7_, go_sem, seval] <;> (simp only [decide_eq_false_iff_not] at h5; unfold da_; simp [hI.2.2.1 (by omega), hI.2.2.2.1 (by omega), hI.2.2.2.2 (by omega)])) (by simp only [go_sem, seval])
theorem t0_ {c : UInt8} : (dd_ c == 1) = cx_ c := by
 unfold dd_
 cases h : cx_ c with
 | true => rfl
 | false => simp only [Bool.false_eq_true, if_false]; split <;> (try split) <;> (try split) <;> rfl
theorem tl_ {c : UInt8} : (dd_ c == 2) = cs_ c := by
 unfold dd_
 cases h : cx_ c with
 | true => rw [gc_ h]; rfl
 | false =>
  simp only [Bool.false_eq_true, if_false]
  cases cs_ c with
  | true => rfl
  | false => simp only [Bool.false_eq_true, if_false]; split <;> (try split) <;> rfl
theorem abv_ {c : UInt8} {l : Str} (h : dd_ c ≠ 0) (h4 : c ≠ 32) : c8_ (c :: l) = d4_ (c :: l) := by
 show 1 + (if dd_ c < 3 then (l.takeWhile fun x => dd_ x == dd_ c).length else 0) = max 1 (max ((c :: l).takeWhile cx_).length ((c :: l).takeWhile cs_).length)
 cases hl : cx_ c with
 | true =>
  have e : dd_ c = 1 := by unfold dd_; rw [if_pos hl]
  rw [e, if_pos (by decide), j4_ (gc_ hl), List.takeWhile_cons, if_pos hl]
  have : (fun x => dd_ x == 1) = cx_ := funext fun x => t0_
  rw [this]; simp; omega
 | false =>
  rw [j4_ (p := cx_) hl]
  cases hd : cs_ c with
  | true =>
   have e : dd_ c = 2 := by unfold dd_; rw [if_neg (by simp [hl]), if_pos hd]
   rw [e, if_pos (by decide), List.takeWhile_cons, if_pos hd]
   have : (fun x => dd_ x == 2) = cs_ := funext fun x => tl_
   rw [this]; simp; omega
  | false =>
   rw [j4_ hd]
   have e : ¬ dd_ c < 3 := by
    unfold dd_ at h ⊢
    rw [if_neg (by simp [hl]), if_neg (by simp [hd])] at h ⊢
    split
    ·decide
    ·rename_i hm; rw [if_neg hm, if_neg h4] at h; exact absurd rfl h
   rw [if_neg e]; rfl
theorem yy_ {c : UInt8} {l : Str} (h : dd_ c = 0) : da_ (c :: l) = 0 := by
 unfold dd_ at h
 have hl : cx_ c = false := by
  cases q : cx_ c with
  | true => rw [q] at h; simp at h
  | false => rfl
 have hd : cs_ c = false := by
  cases q : cs_ c with
  | true => rw [hl, q] at h; simp at h
  | false => rfl
 have hm : marks.contains c = false := by
  cases q : marks.contains c with
  | true => rw [hl, hd, q] at h; simp at h
  | false => rfl
 unfold da_
 rw [if_neg, if_neg, if_neg]
 ·intro q; simp only [e0_, Bool.and_eq_true, List.headD_cons] at q; rw [hm] at q; exact absurd q.2 (by decide)
 ·intro q
  obtain ⟨n, _, e⟩ := du_.1 q
  have := (jb_ c).2 (dk_ n c (by rw [← e]; simp))
  rw [hd] at this; cases this
 ·intro q; simp [eo_, hl] at q
theorem ok_ {l : Str} {k : Nat} (h : k < l.length) (col : Int) : ez_ (l.drop k).length (l.drop k) col =
  if l.getD k 0 = 32 then ez_ (l.drop (k + c8_ (l.drop k))).length (l.drop (k + c8_ (l.drop k))) (col + c8_ (l.drop k))
  else if da_ ((l.drop k).take (c8_ (l.drop k))) = 0 then none
  else (ez_ (l.drop (k + c8_ (l.drop k))).length (l.drop (k + c8_ (l.drop k))) (col + c8_ (l.drop k))).map (⟨da_ ((l.drop k).take (c8_ (l.drop k))), (l.drop k).take (c8_ (l.drop k)), col⟩ :: ·) := by
 rw [nb_ h]
 have hd := lh_ h
 by_cases h32 : l.getD k 0 = 32
 ·have e : c8_ (l.drop k) = 1 := by
   rw [hd, c8_, h32]; rfl
  rw [if_pos h32, if_pos h32, e]; rfl
 ·rw [if_neg h32, if_neg h32]
  by_cases h0 : dd_ (l.getD k 0) = 0
  ·have p : ∀ m, 1 ≤ m → da_ ((l.drop k).take m) = 0 := fun m hm => by
    rw [hd]
    obtain ⟨m', rfl⟩ : ∃ m', m = m' + 1 := ⟨m - 1, by omega⟩
    rw [List.take_succ_cons]; exact yy_ h0
   rw [if_pos (p _ (ya_ h).1), if_pos (p _ (en_ h).1)]
  ·have e : c8_ (l.drop k) = d4_ (l.drop k) := by rw [hd]; exact abv_ h0 h32
   rw [e]
theorem vo_ (s : Str) (hs : s.length ≤ 281474976710656) : ACall En 96 [.s s] [] [.sl false (tkR ((cg_ s).getD [])), .b (cg_ s).isSome] [] := by
 refine ah_ (fn := Tryz.f96) [] Tryz.func96 rfl rfl (by simp) fun C => ?_
 rw [ar_]
 simp only [Tryz.ntmps96, List.length_cons, List.length_nil, Nat.reduceAdd, Nat.reduceSub, List.replicate_succ, List.replicate_zero, List.cons_append, List.nil_append, bd_]
 refine .seq (.rgn [] (by simp only [go_sem, seval, aj_, ao_]; rfl) ?_ ?_)
 ·(first | trivial | (simp; done) | (simp only [decide_eq_true_eq] at h16; have he := en_ (show q.1 < s.length by omega); first | exact ⟨by omega, hI.2.1⟩ | exact ⟨by omega, by omega⟩ | (refine ⟨by omega, by omega, by omega, by omega, by simp⟩) | (refine ⟨⟨⟨by omega, by omega, by omega, by omega, by simp⟩, rfl⟩, ?_⟩; simp; omega)))
 refine .seq (.rgn [] (by simp only [go_sem, seval, aj_, ao_]; rfl) ?_ ?_)
 ·(first | trivial | (simp; done) | (simp only [decide_eq_true_eq] at h16; have he := en_ (show q.1 < s.length by omega); first | exact ⟨by omega, hI.2.1⟩ | exact ⟨by omega, by omega⟩ | (refine ⟨by omega, by omega, by omega, by omega, by simp⟩) | (refine ⟨⟨⟨by omega, by omega, by omega, by omega, by simp⟩, rfl⟩, ?_⟩; simp; omega)))
 refine .seq (.seq (.rgn [] (by simp only [go_sem, seval, aj_, ao_]; rfl) ?_ ?_))
 ·(first | trivial | (simp; done) | (simp only [decide_eq_true_eq] at h16; have he := en_ (show q.1 < s.length by omega); first | exact ⟨by omega, hI.2.1⟩ | exact ⟨by omega, by omega⟩ | (refine ⟨by omega, by omega, by omega, by omega, by simp⟩) | (refine ⟨⟨⟨by omega, by omega, by omega, by omega, by simp⟩, rfl⟩, ?_⟩; simp; omega)))
 refine .condB (by simp only [go_sem, seval, aj_, ao_]; rfl) (by simp only [go_sem, seval, aj_, ao_]) (fun h11 => ?_) (fun h11 => ?_)
 ·refine .seq (.rgn [] (by simp only [go_sem, seval, aj_, ao_]; rfl) ?_ ?_)
  ·(first | trivial | (simp; done) | (simp only [decide_eq_true_eq] at h16; have he := en_ (show q.1 < s.length by omega); first | exact ⟨by omega, hI.2.1⟩ | exact ⟨by omega, by omega⟩ | (refine ⟨by omega, by omega, by omega, by omega, by simp⟩) | (refine ⟨⟨⟨by omega, by omega, by omega, by omega, by simp⟩, rfl⟩, ?_⟩; simp; omega)))
  refine .ret ⟨.inr rfl, ?_⟩
  exact Out.plainL (by simp only [Tryz.results96]; rfl) (by simp only [aq_, a8_, go_sem, seval, aj_, ao_] <;> (split <;> rfl)) (by simp only [a7_, go_sem, seval, aj_, ao_] <;> (simp only [decide_eq_true_eq] at h11; rw [kx_ (by omega)]; simp [tkR, ler])) (by simp only [go_sem, seval, aj_, ao_])
 ·refine .skip (.seq (.rgn [] (by simp only [go_sem, seval, aj_, ao_]; rfl) ?_ ?_))
  ·(first | trivial | (simp; done) | (simp only [decide_eq_true_eq] at h16; have he := en_ (show q.1 < s.length by omega); first | exact ⟨by omega, hI.2.1⟩ | exact ⟨by omega, by omega⟩ | (refine ⟨by omega, by omega, by omega, by omega, by simp⟩) | (refine ⟨⟨⟨by omega, by omega, by omega, by omega, by simp⟩, rfl⟩, ?_⟩; simp; omega)))
  refine .seq (.block (.loopK (fun q : Nat × List Tk => ⟨[.s s, .no, .no, .no, .ow 60 3 0 q.2.length, .i .i64 q.1, .no, .no, .no, .no, .no, .no, .no, .no, .no, .no, .no, .no, .no, .no, .no, .no, .no, .no, .no, .no, .no, .no, .no, .no, .no, .no, .no, .no, .no, .no, .no, .no, .no, .no, .no, .no, .no, .no], aw_ [(60, ⟨40, 3, tkR q.2⟩)], us [60]⟩) (fun q : Nat × List Tk => q.1 ≤ s.length ∧ s.length ≤ 120 ∧ q.2.length ≤ q.1 ∧ ez_ s.length s 0 = (ez_ (s.drop q.1).length (s.drop q.1) q.1).map (q.2 ++ ·)) (fun q : Nat × List Tk => s.length - q.1) ((0, [])) ?_ ?_ (fun q hI => ?_)))
  ·simp at h11; simp; omega
  ·refine Can.trans (Can.ownSlot 4 60 40 3 (by simp only [go_sem, seval, aj_, ao_] <;> rfl) (by simp only [go_sem, seval, aj_, ao_]) (by simp only [go_sem, seval, aj_, ao_] <;> rfl)) ?_
   exact Can.weak (Weak.lit (by simp only [go_sem, seval, aj_, ao_, an_, leV, al_, am_, V.inn, us, true_or, or_true] <;> ((try simp))) (by simp only [go_sem, seval, aj_, ao_, an_, leV, al_, am_, V.inn, us, true_or, or_true]) (by simp only [go_sem, seval, aj_, ao_, an_, leV, al_, am_, V.inn, us, true_or, or_true] <;> (simp [tkR])))
  refine .seq (.seq (.rgn [] (by simp only [go_sem, seval, aj_, ao_]; rfl) ?_ ?_))
  ·(first | trivial | (simp; done) | (simp only [decide_eq_true_eq] at h16; have he := en_ (show q.1 < s.length by omega); first | exact ⟨by omega, hI.2.1⟩ | exact ⟨by omega, by omega⟩ | (refine ⟨by omega, by omega, by omega, by omega, by simp⟩) | (refine ⟨⟨⟨by omega, by omega, by omega, by omega, by simp⟩, rfl⟩, ?_⟩; simp; omega)))
  refine .condB (by simp only [go_sem, seval, aj_, ao_]; rfl) (by simp only [go_sem, seval, aj_, ao_]) (fun h16 => ?_) (fun h16 => ?_)
  ·refine .skip (.block (.seq (.rgn [c1_ (q.1 < s.length ∧ s.length ≤ 120) (fun h => afy_ s q.1 h.1 (by omega))] (by simp only [go_sem, seval, aj_, ao_]; rfl) ?_ ?_)))
   ·(first | trivial | (simp; done) | (simp only [decide_eq_true_eq] at h16; have he := en_ (show q.1 < s.length by omega); first | exact ⟨by omega, hI.2.1⟩ | exact ⟨by omega, by omega⟩ | (refine ⟨by omega, by omega, by omega, by omega, by simp⟩) | (refine ⟨⟨⟨by omega, by omega, by omega, by omega, by simp⟩, rfl⟩, ?_⟩; simp; omega)))
   refine .seqJ (fun p : List Tk => ⟨[.s s, .no, .no, .no, .ow 60 3 0 p.length, .no, .i .i64 ((q.1 + c8_ (s.drop q.1) : Nat) : Int), .no, .no, .no, .no, .no, .no, .no, .no, .no, .no, .no, .no, .no, .no, .no, .no, .no, .no, .no, .no, .no, .no, .no, .no, .no, .no, .no, .no, .no, .no, .no, .no, .no, .no, .no, .no, .no], aw_ [(60, ⟨40, 3, tkR p⟩)], us [60]⟩) (fun p : List Tk => p.length ≤ q.1 + 1 ∧ ez_ s.length s 0 = (ez_ (s.drop (q.1 + c8_ (s.drop q.1))).length (s.drop (q.1 + c8_ (s.drop q.1))) ((q.1 + c8_ (s.drop q.1) : Nat) : Int)).map (p ++ ·)) ?_ (fun p hJ => ?_)
   ·refine .seq (.rgn [] (by simp only [go_sem, seval, aj_, ao_]; rfl) ?_ ?_)
    ·(first | trivial | (simp; done) | (simp only [decide_eq_true_eq] at h16; have he := en_ (show q.1 < s.length by omega); first | exact ⟨by omega, hI.2.1⟩ | exact ⟨by omega, by omega⟩ | (refine ⟨by omega, by omega, by omega, by omega, by simp⟩) | (refine ⟨⟨⟨by omega, by omega, by omega, by omega, by simp⟩, rfl⟩, ?_⟩; simp; omega)))
    refine .condB (by simp only [go_sem, seval, aj_, ao_]; rfl) (by simp only [go_sem, seval, aj_, ao_]) (fun h23 => ?_) (fun h23 => ?_)
    ·refine .seq (.rgn [a2_ (wd_ ((s.drop q.1).take (c8_ (s.drop q.1))) (by simp; omega))] (by simp only [go_sem, seval, aj_, ao_, nz_]; rfl) ?_ ?_)
     ·(first | trivial | (simp; done) | (simp only [decide_eq_true_eq] at h16; have he := en_ (show q.1 < s.length by omega); first | exact ⟨by omega, hI.2.1⟩ | exact ⟨by omega, by omega⟩ | (refine ⟨by omega, by omega, by omega, by omega, by simp⟩) | (refine ⟨⟨⟨by omega, by omega, by omega, by omega, by simp⟩, rfl⟩, ?_⟩; simp; omega)))
     refine .seq (.seq (.rgn [] (by simp only [go_sem, seval, aj_, ao_]; rfl) ?_ ?_))
     ·(first | trivial | (simp; done) | (simp only [decide_eq_true_eq] at h16; have he := en_ (show q.1 < s.length by omega); first | exact ⟨by omega, hI.2.1⟩ | exact ⟨by omega, by omega⟩ | (refine ⟨by omega, by omega, by omega, by omega, by simp⟩) | (refine ⟨⟨⟨by omega, by omega, by omega, by omega, by simp⟩, rfl⟩, ?_⟩; simp; omega)))
     refine .condB (by simp only [go_sem, seval, aj_, ao_]; rfl) (by simp only [go_sem, seval, aj_, ao_]) (fun h30 => ?_) (fun h30 => ?_)
     ·refine .seq (.rgn [] (by simp only [go_sem, seval, aj_, ao_]; rfl) ?_ ?_)
      ·(first | trivial | (simp; done) | (simp only [decide_eq_true_eq] at h16; have he := en_ (show q.1 < s.length by omega); first | exact ⟨by omega, hI.2.1⟩ | exact ⟨by omega, by omega⟩ | (refine ⟨by omega, by omega, by omega, by omega, by simp⟩) | (refine ⟨⟨⟨by omega, by omega, by omega, by omega, by simp⟩, rfl⟩, ?_⟩; simp; omega)))
      refine .ret ⟨.inr rfl, ?_⟩
      exact Out.plainL (by simp only [Tryz.results96]; rfl) (by simp only [aq_, a8_, go_sem, seval, aj_, ao_] <;> (split <;> rfl)) (by simp only [a7_, go_sem, seval, aj_, ao_] <;> (simp only [decide_eq_true_eq] at h16; have e := ok_ (show q.1 < s.length by omega) q.1; rw [if_neg (fun h => by have := (hd_ (by omega)).1 h; rw [this] at h23; simp at h23), if_pos (by simpa using h30)] at e; rw [gj_ hI.2.1, hI.2.2.2, e]; simp [tkR, ler])) (by simp only [go_sem, seval, aj_, ao_])
     ·refine .skip (.rgn [] (by simp only [go_sem, seval, aj_, ao_, nz_]; rfl) ?_ ?_)
      ·(first | trivial | (simp; done) | (simp only [decide_eq_true_eq] at h16; have he := en_ (show q.1 < s.length by omega); first | exact ⟨by omega, hI.2.1⟩ | exact ⟨by omega, by omega⟩ | (refine ⟨by omega, by omega, by omega, by omega, by simp⟩) | (refine ⟨⟨⟨by omega, by omega, by omega, by omega, by simp⟩, rfl⟩, ?_⟩; simp; omega)))
      refine Exists.intro (q.2 ++ [⟨da_ ((s.drop q.1).take (c8_ (s.drop q.1))), (s.drop q.1).take (c8_ (s.drop q.1)), q.1⟩]) ⟨?_, ?_⟩
      ·simp only [decide_eq_true_eq] at h16; obtain ⟨i1, i2, i3, i4⟩ := hI; have e := ok_ (show q.1 < s.length by omega) q.1; first | (rw [if_neg (fun h => by have := (hd_ (by omega)).1 h; rw [this] at h23; simp at h23), if_neg (by simpa using h30)] at e; exact ⟨by simp only [List.length_append, List.length_singleton]; omega, by rw [i4, e, Option.map_map]; simp [Function.comp_def]⟩) | (rw [if_pos ((hd_ (by omega)).2 (by simpa using h23))] at e; exact ⟨by omega, by rw [i4, e]; rfl⟩)
      refine Can.trans (Can.swap 51 60 (by decide) (by decide) (by decide) (by decide) (by simp only [go_sem, seval, aj_, ao_, V.cl]) (by simp only [go_sem, seval, aj_, ao_, V.cl]) (by simp only [go_sem, seval, aj_, ao_, bn_, sw, swM, rnB] <;> rfl) (by simp only [go_sem, seval, aj_, ao_, bn_, sw, swM, rnB] <;> rfl) (by simp only [go_sem, seval, aj_, ao_, bn_, sw, swM, rnB] <;> rfl)) ?_
      exact Can.weak (Weak.lit (by simp only [go_sem, seval, aj_, ao_, an_, leV, al_, am_, V.inn, us, true_or, or_true] <;> ((try simp))) (by simp only [go_sem, seval, aj_, ao_, an_, leV, al_, am_, V.inn, us, true_or, or_true]) (by simp only [go_sem, seval, aj_, ao_, an_, leV, al_, am_, V.inn, us, true_or, or_true] <;> ((try simp [n6_]))))
    ·refine .skip ?_
     refine Exists.intro (q.2) ⟨?_, ?_⟩
     ·simp only [decide_eq_true_eq] at h16; obtain ⟨i1, i2, i3, i4⟩ := hI; have e := ok_ (show q.1 < s.length by omega) q.1; first | (rw [if_neg (fun h => by have := (hd_ (by omega)).1 h; rw [this] at h23; simp at h23), if_neg (by simpa using h30)] at e; exact ⟨by simp only [List.length_append, List.length_singleton]; omega, by rw [i4, e, Option.map_map]; simp [Function.comp_def]⟩) | (rw [if_pos ((hd_ (by omega)).2 (by simpa using h23))] at e; exact ⟨by omega, by rw [i4, e]; rfl⟩)
     exact Can.weak (Weak.lit (by simp only [go_sem, seval, aj_, ao_, an_, leV, al_, am_, V.inn, us, true_or, or_true] <;> ((try simp))) (by simp only [go_sem, seval, aj_, ao_, an_, leV, al_, am_, V.inn, us, true_or, or_true]) (by simp only [go_sem, seval, aj_, ao_, an_, leV, al_, am_, V.inn, us, true_or, or_true] <;> ((try simp [n6_]))))
   refine .rgn [] (by simp only [go_sem, seval, aj_, ao_]; rfl) ?_ ?_
   ·(first | trivial | (simp; done) | (simp only [decide_eq_true_eq] at h16; have he := en_ (show q.1 < s.length by omega); first | exact ⟨by omega, hI.2.1⟩ | exact ⟨by omega, by omega⟩ | (refine ⟨by omega, by omega, by omega, by omega, by simp⟩) | (refine ⟨⟨⟨by omega, by omega, by omega, by omega, by simp⟩, rfl⟩, ?_⟩; simp; omega)))
   refine Exists.intro ((q.1 + c8_ (s.drop q.1), p)) ⟨?_, ?_, ?_⟩
   ·simp only [decide_eq_true_eq] at h16; have he := en_ (show q.1 < s.length by omega); exact ⟨by dsimp only; omega, hI.2.1, by dsimp only; have := hJ.1; omega, hJ.2⟩
   ·simp only [decide_eq_true_eq] at h16; have := en_ (show q.1 < s.length by omega); dsimp only; omega
   exact Can.weak (Weak.lit (by simp only [go_sem, seval, aj_, ao_, an_, leV, al_, am_, V.inn, us, true_or, or_true] <;> ((try simp))) (by simp only [go_sem, seval, aj_, ao_, an_, leV, al_, am_, V.inn, us, true_or, or_true]) (by simp only [go_sem, seval, aj_, ao_, an_, leV, al_, am_, V.inn, us, true_or, or_true] <;> ((try simp))))
  ·refine .exit (.seq (.rgn [] (by simp only [go_sem, seval, aj_, ao_]; rfl) ?_ ?_))
   ·(first | trivial | (simp; done) | (simp only [decide_eq_true_eq] at h16; have he := en_ (show q.1 < s.length by omega); first | exact ⟨by omega, hI.2.1⟩ | exact ⟨by omega, by omega⟩ | (refine ⟨by omega, by omega, by omega, by omega, by simp⟩) | (refine ⟨⟨⟨by omega, by omega, by omega, by omega, by simp⟩, rfl⟩, ?_⟩; simp; omega)))
   refine .frz 60 (by simp only [go_sem, seval, aj_, ao_]; rfl) (by simp only [go_sem, seval, aj_, ao_]) (by simp only [go_sem, seval, aj_, ao_]; rfl) (by simp only [go_sem, seval, aj_, ao_]; rfl) ?_
   refine .ret ⟨.inr rfl, ?_⟩
   exact Out.plainL (by simp only [Tryz.results96]; rfl) (by simp only [aq_, a8_, go_sem, seval, aj_, ao_] <;> (split <;> rfl)) (by simp only [a7_, go_sem, seval, aj_, ao_] <;> (simp only [decide_eq_false_iff_not] at h16; rw [gj_ hI.2.1, hI.2.2.2, p1_ (by omega)]; simp [List.take_of_length_le, ao_, leV, ba_])) (by simp only [go_sem, seval, aj_, ao_])
end
section
set_option maxRecDepth 100000
set_option maxHeartbeats 4000000
end
section
set_option maxRecDepth 100000
set_option maxHeartbeats 4000000
theorem adj_ {α : Type} {d : α} {a b : List α} {k : Nat} (ha : k < a.length) (hb : k < b.length) (h : a.take k = b.take k) (e : a.getD k d = b.getD k d) : a.take (k + 1) = b.take (k + 1) := by
 rw [List.take_add_one (l := a), List.take_add_one (l := b), h, List.getElem?_eq_getElem ha, List.getElem?_eq_getElem hb]
 rw [List.getD_eq_getElem?_getD, List.getD_eq_getElem?_getD, List.getElem?_eq_getElem ha, List.getElem?_eq_getElem hb] at e
 rw [show a[k] = b[k] by simpa using e]
end
end Go.Proofs.YtefmbmafdgedmaaGreatDoor
