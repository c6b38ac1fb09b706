/- Numbers and words of a line: the reference's l12Num, l3Num, TokOk, TokKind, l3Class. Conditions: none. -/
import Derived.Test.YtcigkafioinfoaaGreatDoorKn
import Derived.Test.YtcigkafioinfoaaGreatDoorKg
import Derived.Test.YtcigkafioinfoaaGreatDoorKd
import Derived.Test.YtcigkafioinfoaaGreatDoorKb
import Derived.Test.YtcigkafioinfoaaGreatDoorK3
import Derived.Test.YtcigkafioinfoaaGreatDoorK1
set_option linter.unusedVariables false
set_option linter.unusedSimpArgs false
namespace Go.Proofs.YtcigkafioinfoaaGreatDoor
section
set_option maxRecDepth 100000
set_option maxHeartbeats 4000000
theorem jk_ (s : Str) : (decide ((s.length : Int) > 0) && (((s.getD 0 0).toNat : Int) == 45)) = (s.head? == some 45) := by
 cases s with
 | nil => rfl
 | cons c r =>
  have h : decide (((c :: r).length : Int) > 0) = true := by simp only [T7_, T3_]; omega
  rw [h, Bool.true_and]
  simp only [List.getD_cons_zero, List.head?_cons]
  rw [Bool.eq_iff_iff]
  simp only [beq_iff_eq, Option.some.injEq]
  constructor
  ·intro e; apply UInt8.toNat_inj.1; show _ = 45; omega
  ·intro e; rw [e]; rfl
theorem qh_ : ∀ (k : Nat) (l : Str), k ≤ l.length → (l.take k).all c3_ = true → cu_ (l.take k) < 10 ^ k
 | 0, l, _, _ => by simp [cu_]
 | k + 1, l, hk, h => by
  have e : l.take (k + 1) = l.take k ++ [l.getD k 0] := by
   rw [List.take_add_one, T6_ hk, T8_, T6_ hk]; rfl
  rw [e, List.all_append, T5_] at h
  have ih := qh_ k l (by omega) h.1
  rw [e, hg_, Nat.pow_succ]
  have hd : c3_ (l.getD k 0) = true := by simpa using h.2
  simp only [c3_, T5_, T3_] at hd
  omega
theorem abn_ {l : Str} {k : Nat} (hk : k < l.length) : cu_ (l.take (k + 1)) = cu_ (l.take k) * 10 + ((l.getD k 0).toNat - 48) := by
 have e : l.take (k + 1) = l.take k ++ [l.getD k 0] := by
  rw [List.take_add_one, T6_ hk, T8_, T6_ hk]; rfl
 rw [e, hg_]
theorem zu_ {l : Str} {k : Nat} (hk : k ≤ l.length) (h17 : l.length ≤ 17) (h : (l.take k).all c3_ = true) : cu_ (l.take k) < 100000000000000000 := by
 have := qh_ k l hk h
 have h2 : 10 ^ k ≤ 10 ^ 17 := Nat.pow_le_pow_right (by decide) (by omega)
 have h3 : (10 : Nat) ^ 17 = 100000000000000000 := by decide
 omega
def iv_ (s : Str) : Bool := s.head? == some 45
def dk_ (s : Str) : Str := if iv_ s then s.tail else s
theorem ow_ (s : Str) : hv_ s = if (dk_ s).length = 0 ∨ 17 < (dk_ s).length ∨ ((dk_ s).head? = some 48 ∧ (1 < (dk_ s).length ∨ iv_ s = true)) then (0, false) else if (dk_ s).all c3_ then (if iv_ s then -(cu_ (dk_ s) : Int) else cu_ (dk_ s), true) else (0, false) := rfl
theorem ad6_ (q : Str) (h : q ≠ []) : (((q.getD 0 0).toNat : Int) == 48) = decide (q.head? = some 48) := by
 cases q with
 | nil => exact absurd rfl h
 | cons c r =>
  simp only [List.getD_cons_zero, List.head?_cons, Option.some.injEq]
  rw [Bool.eq_iff_iff]
  simp only [beq_iff_eq, T3_]
  constructor
  ·intro e; apply UInt8.toNat_inj.1; show _ = 48; omega
  ·intro e; rw [e]; rfl
theorem z9_ (q : Str) (n : Bool) : (((q.length : Int) == 0) || decide ((q.length : Int) > 17) || (((q.getD 0 0).toNat : Int) == 48) && (decide ((q.length : Int) > 1) || n)) = decide (q.length = 0 ∨ 17 < q.length ∨ (q.head? = some 48 ∧ (1 < q.length ∨ n = true))) := by
 by_cases hq : q = []
 ·subst hq; simp
 ·rw [ad6_ q hq, Bool.eq_iff_iff]
  simp only [Bool.or_eq_true, T5_, beq_iff_eq, T3_]
  constructor
  ·rintro ((h | h) | ⟨h1, h2 | h2⟩)
   ·exact .inl (by omega)
   ·exact .inr (.inl (by omega))
   ·exact .inr (.inr ⟨h1, .inl (by omega)⟩)
   ·exact .inr (.inr ⟨h1, .inr h2⟩)
  ·rintro (h | h | ⟨h1, h2 | h2⟩)
   ·exact .inl (.inl (by omega))
   ·exact .inl (.inr (by omega))
   ·exact .inr ⟨h1, .inl (by omega)⟩
   ·exact .inr ⟨h1, .inr h2⟩
theorem vk_ {s : Str} (h : (((dk_ s).length : Int) == 0 || decide (((dk_ s).length : Int) > 17) || ((((dk_ s).getD 0 0).toNat : Int) == 48) && (decide (((dk_ s).length : Int) > 1) || iv_ s)) = true) : hv_ s = (0, false) := by
 rw [z9_] at h
 rw [ow_, if_pos (of_decide_eq_true h)]
theorem nt_ {s : Str} (h : (((dk_ s).length : Int) == 0 || decide (((dk_ s).length : Int) > 17) || ((((dk_ s).getD 0 0).toNat : Int) == 48) && (decide (((dk_ s).length : Int) > 1) || iv_ s)) = false) : (dk_ s).length ≤ 17 ∧ hv_ s = (if (dk_ s).all c3_ then (if iv_ s then -(cu_ (dk_ s) : Int) else cu_ (dk_ s), true) else (0, false)) := by
 rw [z9_] at h
 have := of_decide_eq_false h
 exact ⟨by omega, by rw [ow_, if_neg this]⟩
theorem v8_ (c : UInt8) : ∀ (s : Str) (k : Nat), k < s.length → c ∉ s.take k → s.getD k 0 = c → Lib.indexByte s c = k
 | [], k, h, _, _ => by simp at h
 | b :: s, 0, _, _, e => by
  simp only [List.getD_cons_zero] at e
  subst e
  unfold Lib.indexByte; simp
 | b :: s, k + 1, h, hn, e => by
  simp only [List.take_succ_cons, List.mem_cons, not_or] at hn
  have ih := v8_ c s k (by simpa using h) hn.2 (by simpa using e)
  unfold Lib.indexByte
  rw [if_neg (by simpa using fun q => hn.1 q.symm), ih, if_neg (by simp)]; rfl
theorem aeu_ (c : UInt8) (s : Str) (h : c ∉ s) : Lib.indexByte s c = -1 := by
 have h1 := vs_ s c
 have h2 : ¬ 0 ≤ Lib.indexByte s c := fun q => h ((q1_ s c).1 q)
 omega
theorem aey_ {a b : UInt8} (h : ((a.toNat : Int) == (b.toNat : Int)) = true) : a = b := by
 simp only [beq_iff_eq] at h
 apply UInt8.toNat_inj.1; omega
theorem adp_ {a b : UInt8} (h : ((a.toNat : Int) == (b.toNat : Int)) = false) : a ≠ b := by
 rintro rfl; simp at h
theorem abi_ {s : Str} {k : Nat} {c : UInt8} (hk : k < s.length) (h : c ∉ s.take k) (h2 : s.getD k 0 ≠ c) : c ∉ s.take (k + 1) := by
 rw [List.take_add_one, T6_ hk]
 rw [T8_, T6_ hk] at h2
 simp only [Option.toList, List.mem_append, List.mem_cons, List.not_mem_nil, or_false, not_or]
 exact ⟨h, fun e => h2 e.symm⟩
theorem aar_ {c : UInt8} (h : (decide ((c.toNat : Int) < 48) || decide ((c.toNat : Int) > 57)) = true) : c3_ c = false := by
 simp only [Bool.or_eq_true, T3_] at h
 rw [Bool.eq_false_iff]
 intro q
 simp only [c3_, T5_, T3_] at q
 omega
theorem pl_ {c : UInt8} (h : (decide ((c.toNat : Int) < 48) || decide ((c.toNat : Int) > 57)) = false) : c3_ c = true ∧ 48 ≤ c.toNat ∧ c.toNat ≤ 57 := by
 simp only [Bool.or_eq_false_iff, T4_] at h
 simp only [c3_, T5_, T3_]
 omega
theorem agb_ {n : Int} (h1 : 0 ≤ n) (h2 : n < 256) : IntKind.u8.wrap n = n := by
 have e : (2 : Int) ^ IntKind.u8.bits = 256 := rfl
 have e' : IntKind.u8.signed = false := rfl
 simp only [IntKind.wrap, e, e', Bool.false_and, Bool.false_eq_true, if_false]
 omega
theorem ae1_ {q : Str} {k : Nat} (hk : k < q.length) : (q.take (k + 1)).all c3_ = ((q.take k).all c3_ && c3_ (q.getD k 0)) := by
 rw [List.take_add_one, T6_ hk, List.all_append, T8_, T6_ hk]; simp
theorem aad_ (s : Str) (hs : s.length ≤ 281474976710656) : ACall En 265 [.s s] [] [.i .i64 (hv_ s).1, .b (hv_ s).2] [] := by
 have hq : (dk_ s).length ≤ s.length := by unfold dk_; split <;> simp
 have hN := ow_ s
 refine an_ (fn := Tryz.f265) [] Tryz.func265 rfl rfl (by simp) fun C => ?_
 rw [bb_]
 simp only [Tryz.ntmps265, T7_, List.length_nil, Nat.reduceAdd, Nat.reduceSub, List.replicate_succ, List.replicate_zero, List.cons_append, List.nil_append, bu_]
 refine .seq (.rgn [] (by simp only [go_sem, seval]; rfl) ?_ ?_)
 ·first | trivial | simp
 refine .seq (.rgn [] (by simp only [go_sem, seval]; rfl) ?_ ?_)
 ·first | trivial | simp
 refine .seqJ (fun q : Str => ⟨[.s q, .no, .no, .no, .b (iv_ s), .no, .no, .no, .no, .no, .no, .no, .no, .no, .no, .no, .no, .no, .no, .no, .no, .no, .no, .no, .no, .no, .no, .no, .no, .no, .no, .no, .no, .no, .no, .no, .no, .no, .no, .no, .no, .no, .no, .no, .no, .no, .no, .no, .no, .no, .no, .no, .no, .no, .no, .no, .no, .no, .no, .no, .no, .no, .no, .no, .no, .no, .no], bf_ [], us []⟩) (fun q : Str => q = dk_ s) ?_ (fun q hJ => ?_)
 ·refine .seq (.rgn [] (by simp only [go_sem, seval]; rfl) ?_ ?_)
  ·first | trivial | simp
  refine .condB (by simp only [go_sem, seval]; rfl) (by simp only [go_sem, seval]) (fun h15 => ?_) (fun h15 => ?_)
  ·refine .rgn [] (by simp only [go_sem, seval]; rfl) ?_ ?_
   ·rw [T5_] at h15; have h0 := of_decide_eq_true h15.1; omega
   refine Exists.intro (s.drop 1) ⟨?_, ?_⟩
   ·rw [jk_] at h15; unfold dk_ iv_; rw [h15]; simp
   exact Can.weak (Weak.lit (by simp only [go_sem, seval, a2_, leV, az_, ay_, V.inn, us, T9_, Ta_] <;> (first | (refine ⟨by simp [T1_], ?_⟩; rw [jk_]; rfl) | (rw [jk_]; rfl))) (by simp only [go_sem, seval, a2_, leV, az_, ay_, V.inn, us, T9_, Ta_]) (by simp only [go_sem, seval, a2_, leV, az_, ay_, V.inn, us, T9_, Ta_]))
  ·refine .skip ?_
   refine Exists.intro (s) ⟨?_, ?_⟩
   ·rw [jk_] at h15; unfold dk_ iv_; rw [h15]; simp
   exact Can.weak (Weak.lit (by simp only [go_sem, seval, a2_, leV, az_, ay_, V.inn, us, T9_, Ta_] <;> (first | (refine ⟨by simp [T1_], ?_⟩; rw [jk_]; rfl) | (rw [jk_]; rfl))) (by simp only [go_sem, seval, a2_, leV, az_, ay_, V.inn, us, T9_, Ta_]) (by simp only [go_sem, seval, a2_, leV, az_, ay_, V.inn, us, T9_, Ta_]))
 refine .seq (.seq (.rgn [] (by simp only [go_sem, seval]; rfl) ?_ ?_))
 ·refine ⟨⟨⟨⟨fun h => by rw [h]; rfl, fun h => ⟨h, by simp only [Bool.not_eq_true', Bool.or_eq_false_iff, beq_eq_false_iff_ne] at h; have := h.1; omega⟩⟩, fun h => ⟨h, fun h2 => by rw [h, h2]; rfl⟩⟩, fun h => ⟨h, fun h2 => by rw [h, h2]; rfl⟩⟩, fun h => by rw [h]; rfl⟩
 refine .condB (by simp only [go_sem, seval]; rfl) (by simp only [go_sem, seval]) (fun h38 => ?_) (fun h38 => ?_)
 ·refine .seq (.rgn [] (by simp only [go_sem, seval]; rfl) ?_ ?_)
  ·first | trivial | simp
  refine .ret ⟨.inr rfl, ?_⟩
  exact Out.plain (by simp only [Tryz.results265]; rfl) (by simp only [ba_, bs_, go_sem, seval] <;> (split <;> rfl)) (by simp only [bq_, go_sem, seval] <;> (subst hJ; rw [vk_ h38])) (by simp only [go_sem, seval])
 ·refine .skip (.seq (.rgn [] (by simp only [go_sem, seval]; rfl) ?_ ?_))
  ·first | trivial | simp
  refine .seq (.seq (.rgn [] (by simp only [go_sem, seval]; rfl) ?_ ?_))
  ·first | trivial | simp
  refine .block (.loopK (fun k : Nat => ⟨[.s q, .no, .no, .no, .b (iv_ s), .i .i64 (cu_ (q.take k)), .i .i64 k, .no, .no, .no, .no, .no, .no, .no, .no, .no, .no, .no, .no, .no, .no, .no, .no, .no, .no, .no, .no, .no, .no, .no, .no, .no, .no, .no, .no, .no, .no, .no, .no, .no, .no, .no, .no, .no, .no, .no, .no, .no, .no, .no, .no, .no, .no, .no, .no, .no, .no, .no, .no, .no, .no, .no, .no, .no, .no, .no, .no], bf_ [], us []⟩) (fun k : Nat => k ≤ q.length ∧ q.length ≤ 17 ∧ (q.take k).all c3_ = true) (fun k : Nat => q.length - k) (0) ?_ ?_ (fun k hI => ?_))
  ·subst hJ; exact ⟨Nat.zero_le _, (nt_ h38).1, by simp⟩
  ·exact Can.weak (Weak.lit (by simp only [go_sem, seval, a2_, leV, az_, ay_, V.inn, us, T9_, Ta_] <;> (simp [cu_])) (by simp only [go_sem, seval, a2_, leV, az_, ay_, V.inn, us, T9_, Ta_]) (by simp only [go_sem, seval, a2_, leV, az_, ay_, V.inn, us, T9_, Ta_]))
  refine .seq (.seq (.rgn [] (by simp only [go_sem, seval]; rfl) ?_ ?_))
  ·first | trivial | simp
  refine .condB (by simp only [go_sem, seval]; rfl) (by simp only [go_sem, seval]) (fun h42 => ?_) (fun h42 => ?_)
  ·refine .skip (.seq (.block (.seq (.seq (.rgn [] (by simp only [go_sem, seval]; rfl) ?_ ?_)))))
   ·simp only [T3_] at h42; exact ⟨⟨⟨by omega, by omega⟩, fun h => ⟨h, by omega, by omega⟩⟩, fun h => by rw [h]; rfl⟩
   refine .condB (by simp only [go_sem, seval]; rfl) (by simp only [go_sem, seval]) (fun h54 => ?_) (fun h54 => ?_)
   ·refine .seq (.rgn [] (by simp only [go_sem, seval]; rfl) ?_ ?_)
    ·first | trivial | simp
    refine .ret ⟨.inr rfl, ?_⟩
    exact Out.plain (by simp only [Tryz.results265]; rfl) (by simp only [ba_, bs_, go_sem, seval] <;> (split <;> rfl)) (by simp only [bq_, go_sem, seval] <;> (subst hJ; simp only [T3_] at h42; rw [(nt_ h38).2, if_neg]; intro h; have := List.all_eq_true.1 h _ (b2_ (d := 0) (show k < (dk_ s).length by omega)); rw [aar_ h54] at this; cases this)) (by simp only [go_sem, seval])
   ·refine .skip (.rgn [] (by simp only [go_sem, seval]; rfl) ?_ ?_)
    ·simp only [T3_] at h42; exact ⟨by omega, by omega⟩
    refine .rgn [] (by simp only [go_sem, seval]; rfl) ?_ ?_
    ·first | trivial | simp
    refine Exists.intro (k + 1) ⟨?_, ?_, ?_⟩
    ·simp only [T3_] at h42; exact ⟨by omega, hI.2.1, by rw [ae1_ (by omega), hI.2.2, (pl_ h54).1]; rfl⟩
    ·simp at h42; omega
    exact Can.weak (Weak.lit (by simp only [go_sem, seval, a2_, leV, az_, ay_, V.inn, us, T9_, Ta_] <;> ((simp only [T3_] at h42); (have hb := zu_ hI.1 hI.2.1 hI.2.2); (have hd := pl_ h54); rw [agb_ (by omega) (by omega), bv_ (show -9223372036854775808 ≤ (((q.getD k 0).toNat : Int) - 48) by omega) (by omega), bv_ (show -9223372036854775808 ≤ ((cu_ (q.take k) : Int) * 10) by omega) (by omega), bv_ (by omega) (by omega), bv_ (by omega) (by omega), abn_ (show k < q.length by omega)]; omega)) (by simp only [go_sem, seval, a2_, leV, az_, ay_, V.inn, us, T9_, Ta_]) (by simp only [go_sem, seval, a2_, leV, az_, ay_, V.inn, us, T9_, Ta_]))
  ·refine .exit (.seqJ (fun v : Int => ⟨[.no, .no, .no, .no, .no, .i .i64 v, .no, .no, .no, .no, .no, .no, .no, .no, .no, .no, .no, .no, .no, .no, .no, .no, .no, .no, .no, .no, .no, .no, .no, .no, .no, .no, .no, .no, .no, .no, .no, .no, .no, .no, .no, .no, .no, .no, .no, .no, .no, .no, .no, .no, .no, .no, .no, .no, .no, .no, .no, .no, .no, .no, .no, .no, .no, .no, .no, .no, .no], bf_ [], us []⟩) (fun v : Int => v = (if iv_ s then -(cu_ q : Int) else cu_ q) ∧ q.all c3_ = true) ?_ (fun v hJ => ?_))
   ·refine .seq (.rgn [] (by simp only [go_sem, seval]; rfl) ?_ ?_)
    ·first | trivial | simp
    refine .condB (by simp only [go_sem, seval]; rfl) (by simp only [go_sem, seval]) (fun h63 => ?_) (fun h63 => ?_)
    ·refine .rgn [] (by simp only [go_sem, seval]; rfl) ?_ ?_
     ·first | trivial | simp
     refine Exists.intro (-(cu_ q : Int)) ⟨?_, ?_⟩
     ·simp only [T4_] at h42; (have h2 := hI.2.2); rw [T1_ (by omega)] at h2; rw [h63]; exact ⟨by simp, h2⟩
     exact Can.weak (Weak.lit (by simp only [go_sem, seval, a2_, leV, az_, ay_, V.inn, us, T9_, Ta_] <;> ((simp only [T4_] at h42); (have hb := zu_ hI.1 hI.2.1 hI.2.2); rw [T1_ (by omega)] at hb ⊢; (try first | (rw [bv_ (by omega) (by omega)] <;> omega) | rfl))) (by simp only [go_sem, seval, a2_, leV, az_, ay_, V.inn, us, T9_, Ta_]) (by simp only [go_sem, seval, a2_, leV, az_, ay_, V.inn, us, T9_, Ta_]))
    ·refine .skip ?_
     refine Exists.intro ((cu_ q : Int)) ⟨?_, ?_⟩
     ·simp only [T4_] at h42; (have h2 := hI.2.2); rw [T1_ (by omega)] at h2; rw [h63]; exact ⟨by simp, h2⟩
     exact Can.weak (Weak.lit (by simp only [go_sem, seval, a2_, leV, az_, ay_, V.inn, us, T9_, Ta_] <;> ((simp only [T4_] at h42); (have hb := zu_ hI.1 hI.2.1 hI.2.2); rw [T1_ (by omega)] at hb ⊢; (try first | (rw [bv_ (by omega) (by omega)] <;> omega) | rfl))) (by simp only [go_sem, seval, a2_, leV, az_, ay_, V.inn, us, T9_, Ta_]) (by simp only [go_sem, seval, a2_, leV, az_, ay_, V.inn, us, T9_, Ta_]))
   refine .seq (.rgn [] (by simp only [go_sem, seval]; rfl) ?_ ?_)
   ·first | trivial | simp
   refine .ret ⟨.inr rfl, ?_⟩
   exact Out.plain (by simp only [Tryz.results265]; rfl) (by simp only [ba_, bs_, go_sem, seval] <;> (split <;> rfl)) (by simp only [bq_, go_sem, seval] <;> (obtain ⟨j1, j2⟩ := hJ; (have e : q = dk_ s := (by assumption)); subst e; rw [(nt_ h38).2, if_pos j2, ← j1])) (by simp only [go_sem, seval])
theorem aef_ (s : Str) (hs : s.length ≤ 281474976710656) : ACall En 247 [.s s] [] [.b (eq_ s)] [] := by
 have h := (ab6_ s).1
 refine an_ (fn := Tryz.f247) [] Tryz.func247 rfl rfl (by simp) fun C => ?_
 rw [bb_]
 simp only [Tryz.ntmps247, T7_, List.length_nil, Nat.reduceAdd, Nat.reduceSub, List.replicate_succ, List.replicate_zero, List.cons_append, List.nil_append, bu_]
 refine .seq (.rgn [] (by simp only [go_sem, seval]; rfl) ?_ ?_)
 ·first | trivial | simp
 refine .seq (.rgn [br_ (aad_ s hs)] (by simp only [go_sem, seval]; rfl) ?_ ?_)
 ·first | trivial | simp
 refine .seq (.rgn [] (by simp only [go_sem, seval]; rfl) ?_ ?_)
 ·first | trivial | simp
 refine .ret ⟨.inr rfl, ?_⟩
 exact Out.plain (by simp only [Tryz.results247]; rfl) (by simp only [ba_, bs_, go_sem, seval] <;> (split <;> rfl)) (by simp only [bq_, go_sem, seval] <;> (rw [← h]; simp [Bool.and_assoc])) (by simp only [go_sem, seval])
theorem qp_ : ACall En 246 [] [] [.s marks] [] := by
 refine an_ (fn := Tryz.f246) [] Tryz.func246 rfl rfl (by simp) fun C => ?_
 rw [bb_]
 simp only [Tryz.ntmps246, T7_, List.length_nil, Nat.reduceAdd, Nat.reduceSub, List.replicate_succ, List.replicate_zero, List.cons_append, List.nil_append, bu_]
 refine .seq (.rgn [] (by simp only [go_sem, seval]; rfl) ?_ ?_)
 ·first | trivial | simp
 refine .seq (.rgn [] (by simp only [go_sem, seval]; rfl) ?_ ?_)
 ·first | trivial | simp
 refine .ret ⟨.inr rfl, ?_⟩
 exact Out.plain (by simp only [Tryz.results246]; rfl) (by simp only [ba_, bs_, go_sem, seval] <;> (split <;> rfl)) (by simp only [bq_, go_sem, seval] <;> (rfl)) (by simp only [go_sem, seval])
theorem pn_ (s : Str) (c : UInt8) (hs : s.length ≤ 281474976710656) : ACall En 245 [.s s, .i .u8 c.toNat] [] [.i .i64 (Lib.indexByte s c)] [] := by
 refine an_ (fn := Tryz.f245) [] Tryz.func245 rfl rfl (by simp) fun C => ?_
 rw [bb_]
 simp only [Tryz.ntmps245, T7_, List.length_nil, Nat.reduceAdd, Nat.reduceSub, List.replicate_succ, List.replicate_zero, List.cons_append, List.nil_append, bu_]
 refine .seq (.rgn [] (by simp only [go_sem, seval]; rfl) ?_ ?_)
 ·(first | trivial | (simp; done) | (simp at h9; simp; omega))
 refine .seq (.seq (.rgn [] (by simp only [go_sem, seval]; rfl) ?_ ?_))
 ·(first | trivial | (simp; done) | (simp at h9; simp; omega))
 refine .block (.loopK (fun k : Nat => ⟨[.s s, .i .u8 c.toNat, .no, .no, .no, .i .i64 k, .no, .no, .no, .no, .no, .no, .no, .no, .no, .no, .no, .no], bf_ [], us []⟩) (fun k : Nat => k ≤ s.length ∧ c ∉ s.take k) (fun k : Nat => s.length - k) (0) ?_ ?_ (fun k hI => ?_))
 ·simp
 ·exact Can.weak (Weak.lit (by simp only [go_sem, seval, a2_, leV, az_, ay_, V.inn, us, T9_, Ta_] <;> ((try simp))) (by simp only [go_sem, seval, a2_, leV, az_, ay_, V.inn, us, T9_, Ta_]) (by simp only [go_sem, seval, a2_, leV, az_, ay_, V.inn, us, T9_, Ta_]))
 refine .seq (.seq (.rgn [] (by simp only [go_sem, seval]; rfl) ?_ ?_))
 ·(first | trivial | (simp; done) | (simp at h9; simp; omega))
 refine .condB (by simp only [go_sem, seval]; rfl) (by simp only [go_sem, seval]) (fun h9 => ?_) (fun h9 => ?_)
 ·refine .skip (.seq (.block (.seq (.rgn [] (by simp only [go_sem, seval]; rfl) ?_ ?_))))
  ·(first | trivial | (simp; done) | (simp at h9; simp; omega))
  refine .condB (by simp only [go_sem, seval]; rfl) (by simp only [go_sem, seval]) (fun h16 => ?_) (fun h16 => ?_)
  ·refine .seq (.rgn [] (by simp only [go_sem, seval]; rfl) ?_ ?_)
   ·(first | trivial | (simp; done) | (simp at h9; simp; omega))
   refine .ret ⟨.inr rfl, ?_⟩
   exact Out.plain (by simp only [Tryz.results245]; rfl) (by simp only [ba_, bs_, go_sem, seval] <;> (split <;> rfl)) (by simp only [bq_, go_sem, seval] <;> (simp only [T3_] at h9; rw [v8_ c s k (by omega) hI.2 (aey_ h16)])) (by simp only [go_sem, seval])
  ·refine .skip (.rgn [] (by simp only [go_sem, seval]; rfl) ?_ ?_)
   ·(first | trivial | (simp; done) | (simp at h9; simp; omega))
   refine Exists.intro (k + 1) ⟨?_, ?_, ?_⟩
   ·simp only [T3_] at h9; exact ⟨by omega, abi_ (by omega) hI.2 (adp_ h16)⟩
   ·simp at h9; omega
   exact Can.weak (Weak.lit (by simp only [go_sem, seval, a2_, leV, az_, ay_, V.inn, us, T9_, Ta_] <;> (rw [bv_ (by simp at h9; omega) (by simp at h9; omega)]; simp)) (by simp only [go_sem, seval, a2_, leV, az_, ay_, V.inn, us, T9_, Ta_]) (by simp only [go_sem, seval, a2_, leV, az_, ay_, V.inn, us, T9_, Ta_]))
 ·refine .exit (.seq (.rgn [] (by simp only [go_sem, seval]; rfl) ?_ ?_))
  ·(first | trivial | (simp; done) | (simp at h9; simp; omega))
  refine .ret ⟨.inr rfl, ?_⟩
  exact Out.plain (by simp only [Tryz.results245]; rfl) (by simp only [ba_, bs_, go_sem, seval] <;> (split <;> rfl)) (by simp only [bq_, go_sem, seval] <;> (simp only [T4_] at h9; have h2 := hI.2; rw [T1_ (by omega)] at h2; rw [aeu_ c s h2])) (by simp only [go_sem, seval])
end
section
set_option maxRecDepth 100000
set_option maxHeartbeats 4000000
def df_ (c : UInt8) : Int := if dh_ c then 1 else if c3_ c then 2 else if marks.contains c then 3 else if c = 32 then 4 else 0
theorem po_ (c : UInt8) : ACall En 212 [.i .u8 c.toNat] [] [.i .i64 (df_ c)] [] := by
 have hf : decide (Lib.indexByte marks c ≥ 0) = marks.contains c := ia_ marks c
 have h1 : (decide ((c.toNat : Int) ≥ 97) && decide ((c.toNat : Int) ≤ 122)) = dh_ c := rfl
 have h2 : (decide ((c.toNat : Int) ≥ 48) && decide ((c.toNat : Int) ≤ 57)) = c3_ c := rfl
 refine an_ (fn := Tryz.f212) [] Tryz.func212 rfl rfl (by simp) fun C => ?_
 rw [bb_]
 simp only [Tryz.ntmps212, T7_, List.length_nil, Nat.reduceAdd, Nat.reduceSub, List.replicate_succ, List.replicate_zero, List.cons_append, List.nil_append, bu_]
 refine .seq (.rgn [] (by simp only [go_sem, seval]; rfl) ?_ ?_)
 ·(first | trivial | (simp; done) | (intro h; rw [h]; rfl))
 refine .seq (.block (.seq (.rgn [] (by simp only [go_sem, seval]; rfl) ?_ ?_)))
 ·(first | trivial | (simp; done) | (intro h; rw [h]; rfl))
 refine .condB (by simp only [go_sem, seval]; rfl) (by simp only [go_sem, seval]) (fun h3 => ?_) (fun h3 => ?_)
 ·refine .seq (.rgn [] (by simp only [go_sem, seval]; rfl) ?_ ?_)
  ·(first | trivial | (simp; done) | (intro h; rw [h]; rfl))
  refine .ret ⟨.inr rfl, ?_⟩
  exact Out.plain (by simp only [Tryz.results212]; rfl) (by simp only [ba_, bs_, go_sem, seval] <;> (split <;> rfl)) (by simp only [bq_, go_sem, seval] <;> (rw [h1] at h3; unfold df_; rw [if_pos h3])) (by simp only [go_sem, seval])
 ·refine .seq (.rgn [] (by simp only [go_sem, seval]; rfl) ?_ ?_)
  ·(first | trivial | (simp; done) | (intro h; rw [h]; rfl))
  refine .condB (by simp only [go_sem, seval]; rfl) (by simp only [go_sem, seval]) (fun h10 => ?_) (fun h10 => ?_)
  ·refine .seq (.rgn [] (by simp only [go_sem, seval]; rfl) ?_ ?_)
   ·(first | trivial | (simp; done) | (intro h; rw [h]; rfl))
   refine .ret ⟨.inr rfl, ?_⟩
   exact Out.plain (by simp only [Tryz.results212]; rfl) (by simp only [ba_, bs_, go_sem, seval] <;> (split <;> rfl)) (by simp only [bq_, go_sem, seval] <;> (rw [h1] at h3; rw [h2] at h10; unfold df_; rw [if_neg (by simp [h3]), if_pos h10])) (by simp only [go_sem, seval])
  ·refine .seq (.rgn [br_ qp_, br_ (pn_ marks c (by decide))] (by simp only [go_sem, seval]; rfl) ?_ ?_)
   ·(first | trivial | (simp; done) | (intro h; rw [h]; rfl))
   refine .condB (by simp only [go_sem, seval]; rfl) (by simp only [go_sem, seval]) (fun h17 => ?_) (fun h17 => ?_)
   ·refine .seq (.rgn [] (by simp only [go_sem, seval]; rfl) ?_ ?_)
    ·(first | trivial | (simp; done) | (intro h; rw [h]; rfl))
    refine .ret ⟨.inr rfl, ?_⟩
    exact Out.plain (by simp only [Tryz.results212]; rfl) (by simp only [ba_, bs_, go_sem, seval] <;> (split <;> rfl)) (by simp only [bq_, go_sem, seval] <;> (rw [h1] at h3; rw [h2] at h10; rw [hf] at h17; unfold df_; rw [if_neg (by simp [h3]), if_neg (by simp [h10]), if_pos h17])) (by simp only [go_sem, seval])
   ·refine .seq (.rgn [] (by simp only [go_sem, seval]; rfl) ?_ ?_)
    ·(first | trivial | (simp; done) | (intro h; rw [h]; rfl))
    refine .condB (by simp only [go_sem, seval]; rfl) (by simp only [go_sem, seval]) (fun h22 => ?_) (fun h22 => ?_)
    ·refine .seq (.rgn [] (by simp only [go_sem, seval]; rfl) ?_ ?_)
     ·(first | trivial | (simp; done) | (intro h; rw [h]; rfl))
     refine .ret ⟨.inr rfl, ?_⟩
     exact Out.plain (by simp only [Tryz.results212]; rfl) (by simp only [ba_, bs_, go_sem, seval] <;> (split <;> rfl)) (by simp only [bq_, go_sem, seval] <;> (rw [h1] at h3; rw [h2] at h10; rw [hf] at h17; unfold df_; rw [if_neg (by simp [h3]), if_neg (by simp [h10]), if_neg (by rw [h17]; decide), if_pos (by apply UInt8.toNat_inj.1; show _ = 32; simp at h22; omega)])) (by simp only [go_sem, seval])
    ·refine .skip (.seq (.rgn [] (by simp only [go_sem, seval]; rfl) ?_ ?_))
     ·(first | trivial | (simp; done) | (intro h; rw [h]; rfl))
     refine .ret ⟨.inr rfl, ?_⟩
     exact Out.plain (by simp only [Tryz.results212]; rfl) (by simp only [ba_, bs_, go_sem, seval] <;> (split <;> rfl)) (by simp only [bq_, go_sem, seval] <;> (rw [h1] at h3; rw [h2] at h10; rw [hf] at h17; unfold df_; rw [if_neg (by simp [h3]), if_neg (by simp [h10]), if_neg (by rw [h17]; decide), if_neg (by rintro rfl; simp at h22)])) (by simp only [go_sem, seval])
def exC (c : UInt8) (l : Str) : Nat := if df_ c < 3 then (l.takeWhile fun x => df_ x == df_ c).length else 0
def dj_ (l : Str) : Nat := match l with | [] => 1 | c :: r => 1 + exC c r
theorem k0_ {s : Str} {k : Nat} (h : k < s.length) : s.drop k = s.getD k 0 :: s.drop (k + 1) := by
 rw [List.drop_eq_getElem_cons h, T8_, T6_ h]; rfl
theorem ag1_ (c : UInt8) (l : Str) : exC c l ≤ l.length := by
 unfold exC; split
 ·exact (List.takeWhile_prefix _).length_le
 ·omega
theorem es_ {s : Str} {k : Nat} (h : k < s.length) : 1 ≤ dj_ (s.drop k) ∧ k + dj_ (s.drop k) ≤ s.length := by
 rw [k0_ h, dj_]
 have := ag1_ (s.getD k 0) (s.drop (k + 1))
 rw [List.length_drop] at this
 omega
theorem agn_ {c : UInt8} {s : Str} {j : Nat} (h : j < s.length) (h1 : df_ c < 3) (h2 : df_ (s.getD j 0) = df_ c) : exC c (s.drop j) = 1 + exC c (s.drop (j + 1)) := by
 unfold exC
 rw [if_pos h1, if_pos h1, k0_ h, List.takeWhile_cons, if_pos (by rw [h2]; exact beq_self_eq_true _)]
 simp; omega
theorem abg_ {c : UInt8} {s : Str} {j : Nat} (h : ¬ (j < s.length ∧ df_ c < 3 ∧ df_ (s.getD j 0) = df_ c)) : exC c (s.drop j) = 0 := by
 unfold exC
 split
 ·rename_i h1
  rcases Nat.lt_or_ge j s.length with q | q
  ·rw [k0_ q, List.takeWhile_cons, if_neg (by simp; exact fun e => h ⟨q, h1, e⟩)]; rfl
  ·rw [List.drop_of_length_le q]; rfl
 ·rfl
theorem adf_ (s : Str) (k : Nat) (hk : k < s.length) (hs : s.length ≤ 1000000) : ACall En 169 [.s s, .i .i64 k] [] [.i .i64 ((k + dj_ (s.drop k) : Nat) : Int)] [] := by
 have hE : dj_ (s.drop k) = 1 + exC (s.getD k 0) (s.drop (k + 1)) := by rw [k0_ hk]; rfl
 refine an_ (fn := Tryz.f169) [] Tryz.func169 rfl rfl (by simp) fun C => ?_
 rw [bb_]
 simp only [Tryz.ntmps169, T7_, List.length_nil, Nat.reduceAdd, Nat.reduceSub, List.replicate_succ, List.replicate_zero, List.cons_append, List.nil_append, bu_]
 refine .seq (.rgn [] (by simp only [go_sem, seval]; rfl) ?_ ?_)
 ·first | trivial | simp
 refine .seq (.rgn [br_ (po_ (s.getD k 0))] (by simp only [go_sem, seval]; rfl) ?_ ?_)
 ·exact ⟨by omega, by omega⟩
 refine .seq (.rgn [] (by simp only [go_sem, seval]; rfl) ?_ ?_)
 ·first | trivial | simp
 refine .seq (.block (.loopK (fun j : Nat => ⟨[.s s, .no, .no, .no, .no, .i .i64 (df_ (s.getD k 0)), .i .i64 j, .no, .no, .no, .no, .no, .no, .no, .no, .no, .no, .no, .no, .no, .no, .no, .no, .no, .no, .no, .no, .no, .no, .no, .no, .no], bf_ [], us []⟩) (fun j : Nat => k + 1 ≤ j ∧ j ≤ s.length ∧ k + 1 + exC (s.getD k 0) (s.drop (k + 1)) = j + exC (s.getD k 0) (s.drop j)) (fun j : Nat => s.length - j) (k + 1) ?_ ?_ (fun j hI => ?_)))
 ·exact ⟨Nat.le_refl _, hk, rfl⟩
 ·exact Can.weak (Weak.lit (by simp only [go_sem, seval, a2_, leV, az_, ay_, V.inn, us, T9_, Ta_] <;> (rw [bv_ (by omega) (by omega)]; simp)) (by simp only [go_sem, seval, a2_, leV, az_, ay_, V.inn, us, T9_, Ta_]) (by simp only [go_sem, seval, a2_, leV, az_, ay_, V.inn, us, T9_, Ta_]))
 refine .seq (.seq (.rgn [dw_ (j < s.length) (fun _ => po_ (s.getD j 0))] (by simp only [go_sem, seval]; rfl) ?_ ?_))
 ·exact ⟨fun h => ⟨h, by omega, by rw [T5_] at h; exact of_decide_eq_true h.1⟩, fun h => ⟨h, by rw [T5_] at h; have h0 := of_decide_eq_true h.1; omega⟩⟩
 refine .condB (by simp only [go_sem, seval]; rfl) (by simp only [go_sem, seval]) (fun h28 => ?_) (fun h28 => ?_)
 ·refine .skip (.block (.rgn [] (by simp only [go_sem, seval]; rfl) ?_ ?_))
  ·first | trivial | simp
  refine Exists.intro (j + 1) ⟨?_, ?_, ?_⟩
  ·rw [T5_, T5_] at h28; have a := of_decide_eq_true h28.1.1; have b := of_decide_eq_true h28.1.2; have c := beq_iff_eq.1 h28.2; have e := agn_ (show j < s.length by omega) b c; exact ⟨by omega, by omega, by omega⟩
  ·rw [T5_, T5_] at h28; have a := of_decide_eq_true h28.1.1; omega
  exact Can.weak (Weak.lit (by simp only [go_sem, seval, a2_, leV, az_, ay_, V.inn, us, T9_, Ta_] <;> (rw [bv_ (by omega) (by omega)]; simp)) (by simp only [go_sem, seval, a2_, leV, az_, ay_, V.inn, us, T9_, Ta_]) (by simp only [go_sem, seval, a2_, leV, az_, ay_, V.inn, us, T9_, Ta_]))
 ·refine .exit (.seq (.rgn [] (by simp only [go_sem, seval]; rfl) ?_ ?_))
  ·first | trivial | simp
  refine .ret ⟨.inr rfl, ?_⟩
  exact Out.plain (by simp only [Tryz.results169]; rfl) (by simp only [ba_, bs_, go_sem, seval] <;> (split <;> rfl)) (by simp only [bq_, go_sem, seval] <;> ((have e := abg_ (c := s.getD k 0) (s := s) (j := j) (fun q => by rw [decide_eq_true (show (j : Int) < s.length by omega), decide_eq_true q.2.1, q.2.2] at h28; simp at h28)); rw [hE, show k + (1 + exC (s.getD k 0) (s.drop (k + 1))) = j by omega])) (by simp only [go_sem, seval])
theorem yt_ (s : Str) : (((s.length : Int) == 1) && decide (Lib.indexByte marks (s.getD 0 0) ≥ 0)) = fj_ s := by
 unfold fj_
 rw [show decide (Lib.indexByte marks (s.getD 0 0) ≥ 0) = marks.contains (s.getD 0 0) from ia_ marks _]
 congr 1
 ·rw [Bool.eq_iff_iff]; simp; omega
 ·cases s <;> rfl
def jy_ (k : Int) (s : Str) : Bool := if k = 1 then e7_ s else if k = 2 then eq_ s else if k = 3 then fj_ s else false
theorem abc_ (k : Int) (s : Str) (hs : s.length ≤ 281474976710656) : ACall En 213 [.i .i64 k, .s s] [] [.b (jy_ k s)] [] := by
 refine an_ (fn := Tryz.f213) [] Tryz.func213 rfl rfl (by simp) fun C => ?_
 rw [bb_]
 simp only [Tryz.ntmps213, T7_, List.length_nil, Nat.reduceAdd, Nat.reduceSub, List.replicate_succ, List.replicate_zero, List.cons_append, List.nil_append, bu_]
 refine .seq (.rgn [] (by simp only [go_sem, seval]; rfl) ?_ ?_)
 ·first | trivial | simp
 refine .seq (.seq (.rgn [] (by simp only [go_sem, seval]; rfl) ?_ ?_))
 ·first | trivial | simp
 refine .block (.seq (.rgn [] (by simp only [go_sem, seval]; rfl) ?_ ?_))
 ·first | trivial | simp
 refine .condB (by simp only [go_sem, seval]; rfl) (by simp only [go_sem, seval]) (fun h6 => ?_) (fun h6 => ?_)
 ·refine .seq (.rgn [br_ (to_ s (by omega))] (by simp only [go_sem, seval]; rfl) ?_ ?_)
  ·first | trivial | simp
  refine .ret ⟨.inr rfl, ?_⟩
  exact Out.plain (by simp only [Tryz.results213]; rfl) (by simp only [ba_, bs_, go_sem, seval] <;> (split <;> rfl)) (by simp only [bq_, go_sem, seval] <;> (simp at h6; simp [jy_, h6])) (by simp only [go_sem, seval])
 ·refine .seq (.rgn [] (by simp only [go_sem, seval]; rfl) ?_ ?_)
  ·first | trivial | simp
  refine .condB (by simp only [go_sem, seval]; rfl) (by simp only [go_sem, seval]) (fun h10 => ?_) (fun h10 => ?_)
  ·refine .seq (.rgn [br_ (aef_ s hs)] (by simp only [go_sem, seval]; rfl) ?_ ?_)
   ·first | trivial | simp
   refine .ret ⟨.inr rfl, ?_⟩
   exact Out.plain (by simp only [Tryz.results213]; rfl) (by simp only [ba_, bs_, go_sem, seval] <;> (split <;> rfl)) (by simp only [bq_, go_sem, seval] <;> (simp at h6 h10; simp [jy_, h10])) (by simp only [go_sem, seval])
  ·refine .seq (.rgn [] (by simp only [go_sem, seval]; rfl) ?_ ?_)
   ·first | trivial | simp
   refine .condB (by simp only [go_sem, seval]; rfl) (by simp only [go_sem, seval]) (fun h14 => ?_) (fun h14 => ?_)
   ·refine .seq (.rgnD [br_ qp_, dw_ (0 < s.length) (fun _ => pn_ marks (s.getD 0 0) (by decide))] enM (by simp only [go_sem, seval]; rfl) (by rfl) ?_ ?_)
    ·exact ⟨fun h => ⟨h, by have := beq_iff_eq.1 h; omega⟩, fun h => ⟨h, by have := beq_iff_eq.1 h; omega⟩⟩
    refine .ret ⟨.inr rfl, ?_⟩
    exact Out.plain (by simp only [Tryz.results213]; rfl) (by simp only [ba_, bs_, go_sem, seval] <;> (split <;> rfl)) (by simp only [bq_, go_sem, seval] <;> (simp at h6 h10 h14; simp [jy_, h14]; rw [← yt_]; simp)) (by simp only [go_sem, seval])
   ·refine .skip (.seq (.rgn [] (by simp only [go_sem, seval]; rfl) ?_ ?_))
    ·first | trivial | simp
    refine .ret ⟨.inr rfl, ?_⟩
    exact Out.plain (by simp only [Tryz.results213]; rfl) (by simp only [ba_, bs_, go_sem, seval] <;> (split <;> rfl)) (by simp only [bq_, go_sem, seval] <;> (simp at h6 h10 h14; simp [jy_, h6, h10, h14])) (by simp only [go_sem, seval])
theorem vo_ (s : Str) (hs : s.length ≤ 281474976710656) : ACall En 170 [.s s] [] [.i .i64 (dn_ s)] [] := by
 refine an_ (fn := Tryz.f170) [] Tryz.func170 rfl rfl (by simp) fun C => ?_
 rw [bb_]
 simp only [Tryz.ntmps170, T7_, List.length_nil, Nat.reduceAdd, Nat.reduceSub, List.replicate_succ, List.replicate_zero, List.cons_append, List.nil_append, bu_]
 refine .seq (.rgn [] (by simp only [go_sem, seval]; rfl) ?_ ?_)
 ·first | trivial | simp
 refine .seq (.seq (.rgn [] (by simp only [go_sem, seval]; rfl) ?_ ?_))
 ·first | trivial | simp
 refine .block (.loopK (fun k : Nat => ⟨[.s s, .no, .no, .i .i64 k, .no, .no, .no, .no, .no, .no, .no, .no], bf_ [], us []⟩) (fun k : Nat => 1 ≤ k ∧ k ≤ 4 ∧ (2 ≤ k → e7_ s = false) ∧ (3 ≤ k → eq_ s = false) ∧ (4 ≤ k → fj_ s = false)) (fun k : Nat => 4 - k) (1) ?_ ?_ (fun k hI => ?_))
 ·exact ⟨by decide, by decide, fun h => by omega, fun h => by omega, fun h => by omega⟩
 ·exact Can.weak (Weak.lit (by simp only [go_sem, seval, a2_, leV, az_, ay_, V.inn, us, T9_, Ta_] <;> (rfl)) (by simp only [go_sem, seval, a2_, leV, az_, ay_, V.inn, us, T9_, Ta_]) (by simp only [go_sem, seval, a2_, leV, az_, ay_, V.inn, us, T9_, Ta_]))
 refine .seq (.seq (.rgn [] (by simp only [go_sem, seval]; rfl) ?_ ?_))
 ·first | trivial | simp
 refine .condB (by simp only [go_sem, seval]; rfl) (by simp only [go_sem, seval]) (fun h5 => ?_) (fun h5 => ?_)
 ·refine .skip (.seq (.block (.seq (.rgn [br_ (abc_ k s hs)] (by simp only [go_sem, seval]; rfl) ?_ ?_))))
  ·first | trivial | simp
  refine .condB (by simp only [go_sem, seval]; rfl) (by simp only [go_sem, seval]) (fun h10 => ?_) (fun h10 => ?_)
  ·refine .seq (.rgn [] (by simp only [go_sem, seval]; rfl) ?_ ?_)
   ·first | trivial | simp
   refine .ret ⟨.inr rfl, ?_⟩
   exact Out.plain (by simp only [Tryz.results170]; rfl) (by simp only [ba_, bs_, go_sem, seval] <;> (split <;> rfl)) (by simp only [bq_, go_sem, seval] <;> (simp only [T3_] at h5; unfold dn_; rcases (show k = 1 ∨ k = 2 ∨ k = 3 by omega) with e | e | e <;> subst e <;> simp [jy_] at h10; (simp [h10]); (simp [h10, hI.2.2.1 (by omega)]); (simp [h10, hI.2.2.1 (by omega), hI.2.2.2.1 (by omega)]))) (by simp only [go_sem, seval])
  ·refine .skip (.rgn [] (by simp only [go_sem, seval]; rfl) ?_ ?_)
   ·first | trivial | simp
   refine Exists.intro (k + 1) ⟨?_, ?_, ?_⟩
   ·simp only [T3_] at h5; rcases (show k = 1 ∨ k = 2 ∨ k = 3 by omega) with e | e | e <;> subst e <;> simp [jy_] at h10; exact ⟨by omega, by omega, fun _ => h10, fun h => by omega, fun h => by omega⟩; exact ⟨by omega, by omega, fun _ => hI.2.2.1 (by omega), fun _ => h10, fun h => by omega⟩; exact ⟨by omega, by omega, fun _ => hI.2.2.1 (by omega), fun _ => hI.2.2.2.1 (by omega), fun _ => h10⟩
   ·simp at h5; omega
   exact Can.weak (Weak.lit (by simp only [go_sem, seval, a2_, leV, az_, ay_, V.inn, us, T9_, Ta_] <;> (rw [bv_ (by omega) (by omega)]; simp)) (by simp only [go_sem, seval, a2_, leV, az_, ay_, V.inn, us, T9_, Ta_]) (by simp only [go_sem, seval, a2_, leV, az_, ay_, V.inn, us, T9_, Ta_]))
 ·refine .exit (.seq (.rgn [] (by simp only [go_sem, seval]; rfl) ?_ ?_))
  ·first | trivial | simp
  refine .ret ⟨.inr rfl, ?_⟩
  exact Out.plain (by simp only [Tryz.results170]; rfl) (by simp only [ba_, bs_, go_sem, seval] <;> (split <;> rfl)) (by simp only [bq_, go_sem, seval] <;> (simp only [T4_] at h5; unfold dn_; simp [hI.2.2.1 (by omega), hI.2.2.2.1 (by omega), hI.2.2.2.2 (by omega)])) (by simp only [go_sem, seval])
theorem t0_ {c : UInt8} : (df_ c == 1) = dh_ c := by
 unfold df_
 cases h : dh_ c with
 | true => rfl
 | false => simp only [Bool.false_eq_true, if_false]; split <;> (try split) <;> (try split) <;> rfl
theorem s9_ {c : UInt8} : (df_ c == 2) = c3_ c := by
 unfold df_
 cases h : dh_ c with
 | true => rw [gk_ h]; rfl
 | false =>
  simp only [Bool.false_eq_true, if_false]
  cases c3_ c with
  | true => rfl
  | false => simp only [Bool.false_eq_true, if_false]; split <;> (try split) <;> rfl
theorem z7_ {c : UInt8} {l : Str} (h : df_ c ≠ 0) (h4 : c ≠ 32) : dj_ (c :: l) = ea_ (c :: l) := by
 show 1 + (if df_ c < 3 then (l.takeWhile fun x => df_ x == df_ c).length else 0) = max 1 (max ((c :: l).takeWhile dh_).length ((c :: l).takeWhile c3_).length)
 cases hl : dh_ c with
 | true =>
  have e : df_ c = 1 := by unfold df_; rw [if_pos hl]
  rw [e, if_pos (by decide), j8_ (gk_ hl), List.takeWhile_cons, if_pos hl]
  have : (fun x => df_ x == 1) = dh_ := funext fun x => t0_
  rw [this]; simp; omega
 | false =>
  rw [j8_ (p := dh_) hl]
  cases hd : c3_ c with
  | true =>
   have e : df_ c = 2 := by unfold df_; rw [if_neg (by simp [hl]), if_pos hd]
   rw [e, if_pos (by decide), List.takeWhile_cons, if_pos hd]
   have : (fun x => df_ x == 2) = c3_ := funext fun x => s9_
   rw [this]; simp; omega
  | false =>
   rw [j8_ hd]
   have e : ¬ df_ c < 3 := by
    unfold df_ at h ⊢
    rw [if_neg (by simp [hl]), if_neg (by simp [hd])] at h ⊢
    split
    ·decide
    ·rename_i hm; rw [if_neg hm, if_neg h4] at h; exact absurd rfl h
   rw [if_neg e]; rfl
theorem xt_ {c : UInt8} {l : Str} (h : df_ c = 0) : dn_ (c :: l) = 0 := by
 unfold df_ at h
 have hl : dh_ c = false := by
  cases q : dh_ c with
  | true => rw [q] at h; simp at h
  | false => rfl
 have hd : c3_ c = false := by
  cases q : c3_ c with
  | true => rw [hl, q] at h; simp at h
  | false => rfl
 have hm : marks.contains c = false := by
  cases q : marks.contains c with
  | true => rw [hl, hd, q] at h; simp at h
  | false => rfl
 unfold dn_
 rw [if_neg, if_neg, if_neg]
 ·intro q; simp only [fj_, T5_, List.headD_cons] at q; rw [hm] at q; exact absurd q.2 (by decide)
 ·intro q
  obtain ⟨n, _, e⟩ := eu_.1 q
  have := (l8_ c).2 (e3_ n c (by rw [← e]; simp))
  rw [hd] at this; cases this
 ·intro q; simp [e7_, hl] at q
theorem o4_ {l : Str} {k : Nat} (h : k < l.length) (col : Int) : gj_ (l.drop k).length (l.drop k) col =
  if l.getD k 0 = 32 then gj_ (l.drop (k + dj_ (l.drop k))).length (l.drop (k + dj_ (l.drop k))) (col + dj_ (l.drop k))
  else if dn_ ((l.drop k).take (dj_ (l.drop k))) = 0 then none
  else (gj_ (l.drop (k + dj_ (l.drop k))).length (l.drop (k + dj_ (l.drop k))) (col + dj_ (l.drop k))).map (⟨dn_ ((l.drop k).take (dj_ (l.drop k))), (l.drop k).take (dj_ (l.drop k)), col⟩ :: ·) := by
 rw [m5_ h]
 have hd := k0_ h
 by_cases h32 : l.getD k 0 = 32
 ·have e : dj_ (l.drop k) = 1 := by
   rw [hd, dj_, h32]; rfl
  rw [if_pos h32, if_pos h32, e]; rfl
 ·rw [if_neg h32, if_neg h32]
  by_cases h0 : df_ (l.getD k 0) = 0
  ·have p : ∀ m, 1 ≤ m → dn_ ((l.drop k).take m) = 0 := fun m hm => by
    rw [hd]
    obtain ⟨m', rfl⟩ : ∃ m', m = m' + 1 := ⟨m - 1, by omega⟩
    rw [List.take_succ_cons]; exact xt_ h0
   rw [if_pos (p _ (y0_ h).1), if_pos (p _ (es_ h).1)]
  ·have e : dj_ (l.drop k) = ea_ (l.drop k) := by rw [hd]; exact z7_ h0 h32
   rw [e]
theorem u1_ (s : Str) (hs : s.length ≤ 281474976710656) : ACall En 108 [.s s] [] [.sl false (tkR ((dl_ s).getD [])), .b (dl_ s).isSome] [] := by
 refine an_ (fn := Tryz.f108) [] Tryz.func108 rfl rfl (by simp) fun C => ?_
 rw [bb_]
 simp only [Tryz.ntmps108, T7_, List.length_nil, Nat.reduceAdd, Nat.reduceSub, List.replicate_succ, List.replicate_zero, List.cons_append, List.nil_append, bu_]
 refine .seq (.rgn [] (by simp only [go_sem, seval, ar_, a1_]; rfl) ?_ ?_)
 ·(first | trivial | (simp; done) | (simp only [T3_] at h16; have he := es_ (show q.1 < s.length by omega); first | exact ⟨by omega, hI.2.1⟩ | exact ⟨by omega, by omega⟩ | (refine ⟨by omega, by omega, by omega, by omega, by simp⟩) | (refine ⟨⟨⟨by omega, by omega, by omega, by omega, by simp⟩, rfl⟩, ?_⟩; simp; omega)))
 refine .seq (.rgn [] (by simp only [go_sem, seval, ar_, a1_]; rfl) ?_ ?_)
 ·(first | trivial | (simp; done) | (simp only [T3_] at h16; have he := es_ (show q.1 < s.length by omega); first | exact ⟨by omega, hI.2.1⟩ | exact ⟨by omega, by omega⟩ | (refine ⟨by omega, by omega, by omega, by omega, by simp⟩) | (refine ⟨⟨⟨by omega, by omega, by omega, by omega, by simp⟩, rfl⟩, ?_⟩; simp; omega)))
 refine .seq (.seq (.rgn [] (by simp only [go_sem, seval, ar_, a1_]; rfl) ?_ ?_))
 ·(first | trivial | (simp; done) | (simp only [T3_] at h16; have he := es_ (show q.1 < s.length by omega); first | exact ⟨by omega, hI.2.1⟩ | exact ⟨by omega, by omega⟩ | (refine ⟨by omega, by omega, by omega, by omega, by simp⟩) | (refine ⟨⟨⟨by omega, by omega, by omega, by omega, by simp⟩, rfl⟩, ?_⟩; simp; omega)))
 refine .condB (by simp only [go_sem, seval, ar_, a1_]; rfl) (by simp only [go_sem, seval, ar_, a1_]) (fun h11 => ?_) (fun h11 => ?_)
 ·refine .seq (.rgn [] (by simp only [go_sem, seval, ar_, a1_]; rfl) ?_ ?_)
  ·(first | trivial | (simp; done) | (simp only [T3_] at h16; have he := es_ (show q.1 < s.length by omega); first | exact ⟨by omega, hI.2.1⟩ | exact ⟨by omega, by omega⟩ | (refine ⟨by omega, by omega, by omega, by omega, by simp⟩) | (refine ⟨⟨⟨by omega, by omega, by omega, by omega, by simp⟩, rfl⟩, ?_⟩; simp; omega)))
  refine .ret ⟨.inr rfl, ?_⟩
  exact Out.plainL (by simp only [Tryz.results108]; rfl) (by simp only [ba_, bs_, go_sem, seval, ar_, a1_] <;> (split <;> rfl)) (by simp only [bq_, go_sem, seval, ar_, a1_] <;> (simp only [T3_] at h11; rw [ks_ (by omega)]; simp [tkR, ler])) (by simp only [go_sem, seval, ar_, a1_])
 ·refine .skip (.seq (.rgn [] (by simp only [go_sem, seval, ar_, a1_]; rfl) ?_ ?_))
  ·(first | trivial | (simp; done) | (simp only [T3_] at h16; have he := es_ (show q.1 < s.length by omega); first | exact ⟨by omega, hI.2.1⟩ | exact ⟨by omega, by omega⟩ | (refine ⟨by omega, by omega, by omega, by omega, by simp⟩) | (refine ⟨⟨⟨by omega, by omega, by omega, by omega, by simp⟩, rfl⟩, ?_⟩; simp; omega)))
  refine .seq (.block (.loopK (fun q : Nat × List Tk => ⟨[.s s, .no, .no, .no, .ow 60 3 0 q.2.length, .i .i64 q.1, .no, .no, .no, .no, .no, .no, .no, .no, .no, .no, .no, .no, .no, .no, .no, .no, .no, .no, .no, .no, .no, .no, .no, .no, .no, .no, .no, .no, .no, .no, .no, .no, .no, .no, .no, .no, .no, .no], bf_ [(60, ⟨100, 3, tkR q.2⟩)], us [60]⟩) (fun q : Nat × List Tk => q.1 ≤ s.length ∧ s.length ≤ 120 ∧ q.2.length ≤ q.1 ∧ gj_ s.length s 0 = (gj_ (s.drop q.1).length (s.drop q.1) q.1).map (q.2 ++ ·)) (fun q : Nat × List Tk => s.length - q.1) ((0, [])) ?_ ?_ (fun q hI => ?_)))
  ·simp at h11; simp; omega
  ·refine Can.trans (Can.ownSlot 4 60 100 3 (by simp only [go_sem, seval, ar_, a1_] <;> rfl) (by simp only [go_sem, seval, ar_, a1_]) (by simp only [go_sem, seval, ar_, a1_] <;> rfl)) ?_
   exact Can.weak (Weak.lit (by simp only [go_sem, seval, ar_, a1_, a2_, leV, az_, ay_, V.inn, us, T9_, Ta_] <;> ((try simp))) (by simp only [go_sem, seval, ar_, a1_, a2_, leV, az_, ay_, V.inn, us, T9_, Ta_]) (by simp only [go_sem, seval, ar_, a1_, a2_, leV, az_, ay_, V.inn, us, T9_, Ta_] <;> (simp [tkR])))
  refine .seq (.seq (.rgn [] (by simp only [go_sem, seval, ar_, a1_]; rfl) ?_ ?_))
  ·(first | trivial | (simp; done) | (simp only [T3_] at h16; have he := es_ (show q.1 < s.length by omega); first | exact ⟨by omega, hI.2.1⟩ | exact ⟨by omega, by omega⟩ | (refine ⟨by omega, by omega, by omega, by omega, by simp⟩) | (refine ⟨⟨⟨by omega, by omega, by omega, by omega, by simp⟩, rfl⟩, ?_⟩; simp; omega)))
  refine .condB (by simp only [go_sem, seval, ar_, a1_]; rfl) (by simp only [go_sem, seval, ar_, a1_]) (fun h16 => ?_) (fun h16 => ?_)
  ·refine .skip (.block (.seq (.rgn [dw_ (q.1 < s.length ∧ s.length ≤ 120) (fun h => adf_ s q.1 h.1 (by omega))] (by simp only [go_sem, seval, ar_, a1_]; rfl) ?_ ?_)))
   ·(first | trivial | (simp; done) | (simp only [T3_] at h16; have he := es_ (show q.1 < s.length by omega); first | exact ⟨by omega, hI.2.1⟩ | exact ⟨by omega, by omega⟩ | (refine ⟨by omega, by omega, by omega, by omega, by simp⟩) | (refine ⟨⟨⟨by omega, by omega, by omega, by omega, by simp⟩, rfl⟩, ?_⟩; simp; omega)))
   refine .seqJ (fun p : List Tk => ⟨[.s s, .no, .no, .no, .ow 60 3 0 p.length, .no, .i .i64 ((q.1 + dj_ (s.drop q.1) : Nat) : Int), .no, .no, .no, .no, .no, .no, .no, .no, .no, .no, .no, .no, .no, .no, .no, .no, .no, .no, .no, .no, .no, .no, .no, .no, .no, .no, .no, .no, .no, .no, .no, .no, .no, .no, .no, .no, .no], bf_ [(60, ⟨100, 3, tkR p⟩)], us [60]⟩) (fun p : List Tk => p.length ≤ q.1 + 1 ∧ gj_ s.length s 0 = (gj_ (s.drop (q.1 + dj_ (s.drop q.1))).length (s.drop (q.1 + dj_ (s.drop q.1))) ((q.1 + dj_ (s.drop q.1) : Nat) : Int)).map (p ++ ·)) ?_ (fun p hJ => ?_)
   ·refine .seq (.rgn [] (by simp only [go_sem, seval, ar_, a1_]; rfl) ?_ ?_)
    ·(first | trivial | (simp; done) | (simp only [T3_] at h16; have he := es_ (show q.1 < s.length by omega); first | exact ⟨by omega, hI.2.1⟩ | exact ⟨by omega, by omega⟩ | (refine ⟨by omega, by omega, by omega, by omega, by simp⟩) | (refine ⟨⟨⟨by omega, by omega, by omega, by omega, by simp⟩, rfl⟩, ?_⟩; simp; omega)))
    refine .condB (by simp only [go_sem, seval, ar_, a1_]; rfl) (by simp only [go_sem, seval, ar_, a1_]) (fun h23 => ?_) (fun h23 => ?_)
    ·refine .seq (.rgn [br_ (vo_ ((s.drop q.1).take (dj_ (s.drop q.1))) (by simp; omega))] (by simp only [go_sem, seval, ar_, a1_, oh_]; rfl) ?_ ?_)
     ·(first | trivial | (simp; done) | (simp only [T3_] at h16; have he := es_ (show q.1 < s.length by omega); first | exact ⟨by omega, hI.2.1⟩ | exact ⟨by omega, by omega⟩ | (refine ⟨by omega, by omega, by omega, by omega, by simp⟩) | (refine ⟨⟨⟨by omega, by omega, by omega, by omega, by simp⟩, rfl⟩, ?_⟩; simp; omega)))
     refine .seq (.seq (.rgn [] (by simp only [go_sem, seval, ar_, a1_]; rfl) ?_ ?_))
     ·(first | trivial | (simp; done) | (simp only [T3_] at h16; have he := es_ (show q.1 < s.length by omega); first | exact ⟨by omega, hI.2.1⟩ | exact ⟨by omega, by omega⟩ | (refine ⟨by omega, by omega, by omega, by omega, by simp⟩) | (refine ⟨⟨⟨by omega, by omega, by omega, by omega, by simp⟩, rfl⟩, ?_⟩; simp; omega)))
     refine .condB (by simp only [go_sem, seval, ar_, a1_]; rfl) (by simp only [go_sem, seval, ar_, a1_]) (fun h30 => ?_) (fun h30 => ?_)
     ·refine .seq (.rgn [] (by simp only [go_sem, seval, ar_, a1_]; rfl) ?_ ?_)
      ·(first | trivial | (simp; done) | (simp only [T3_] at h16; have he := es_ (show q.1 < s.length by omega); first | exact ⟨by omega, hI.2.1⟩ | exact ⟨by omega, by omega⟩ | (refine ⟨by omega, by omega, by omega, by omega, by simp⟩) | (refine ⟨⟨⟨by omega, by omega, by omega, by omega, by simp⟩, rfl⟩, ?_⟩; simp; omega)))
      refine .ret ⟨.inr rfl, ?_⟩
      exact Out.plainL (by simp only [Tryz.results108]; rfl) (by simp only [ba_, bs_, go_sem, seval, ar_, a1_] <;> (split <;> rfl)) (by simp only [bq_, go_sem, seval, ar_, a1_] <;> (simp only [T3_] at h16; have e := o4_ (show q.1 < s.length by omega) q.1; rw [if_neg (fun h => by have := (hf_ (by omega)).1 h; rw [this] at h23; simp at h23), if_pos (by simpa using h30)] at e; rw [gr_ hI.2.1, hI.2.2.2, e]; simp [tkR, ler])) (by simp only [go_sem, seval, ar_, a1_])
     ·refine .skip (.rgn [] (by simp only [go_sem, seval, ar_, a1_, oh_]; rfl) ?_ ?_)
      ·(first | trivial | (simp; done) | (simp only [T3_] at h16; have he := es_ (show q.1 < s.length by omega); first | exact ⟨by omega, hI.2.1⟩ | exact ⟨by omega, by omega⟩ | (refine ⟨by omega, by omega, by omega, by omega, by simp⟩) | (refine ⟨⟨⟨by omega, by omega, by omega, by omega, by simp⟩, rfl⟩, ?_⟩; simp; omega)))
      refine Exists.intro (q.2 ++ [⟨dn_ ((s.drop q.1).take (dj_ (s.drop q.1))), (s.drop q.1).take (dj_ (s.drop q.1)), q.1⟩]) ⟨?_, ?_⟩
      ·simp only [T3_] at h16; obtain ⟨i1, i2, i3, i4⟩ := hI; have e := o4_ (show q.1 < s.length by omega) q.1; first | (rw [if_neg (fun h => by have := (hf_ (by omega)).1 h; rw [this] at h23; simp at h23), if_neg (by simpa using h30)] at e; exact ⟨by simp only [T2_, List.length_singleton]; omega, by rw [i4, e, Option.map_map]; simp [Function.comp_def]⟩) | (rw [if_pos ((hf_ (by omega)).2 (by simpa using h23))] at e; exact ⟨by omega, by rw [i4, e]; rfl⟩)
      refine Can.trans (Can.swap 51 60 (by decide) (by decide) (by decide) (by decide) (by simp only [go_sem, seval, ar_, a1_, V.cl]) (by simp only [go_sem, seval, ar_, a1_, V.cl]) (by simp only [go_sem, seval, ar_, a1_, b9_, sw, swM, rnB] <;> rfl) (by simp only [go_sem, seval, ar_, a1_, b9_, sw, swM, rnB] <;> rfl) (by simp only [go_sem, seval, ar_, a1_, b9_, sw, swM, rnB] <;> rfl)) ?_
      exact Can.weak (Weak.lit (by simp only [go_sem, seval, ar_, a1_, a2_, leV, az_, ay_, V.inn, us, T9_, Ta_] <;> ((try simp))) (by simp only [go_sem, seval, ar_, a1_, a2_, leV, az_, ay_, V.inn, us, T9_, Ta_]) (by simp only [go_sem, seval, ar_, a1_, a2_, leV, az_, ay_, V.inn, us, T9_, Ta_] <;> ((try simp [oe_]))))
    ·refine .skip ?_
     refine Exists.intro (q.2) ⟨?_, ?_⟩
     ·simp only [T3_] at h16; obtain ⟨i1, i2, i3, i4⟩ := hI; have e := o4_ (show q.1 < s.length by omega) q.1; first | (rw [if_neg (fun h => by have := (hf_ (by omega)).1 h; rw [this] at h23; simp at h23), if_neg (by simpa using h30)] at e; exact ⟨by simp only [T2_, List.length_singleton]; omega, by rw [i4, e, Option.map_map]; simp [Function.comp_def]⟩) | (rw [if_pos ((hf_ (by omega)).2 (by simpa using h23))] at e; exact ⟨by omega, by rw [i4, e]; rfl⟩)
     exact Can.weak (Weak.lit (by simp only [go_sem, seval, ar_, a1_, a2_, leV, az_, ay_, V.inn, us, T9_, Ta_] <;> ((try simp))) (by simp only [go_sem, seval, ar_, a1_, a2_, leV, az_, ay_, V.inn, us, T9_, Ta_]) (by simp only [go_sem, seval, ar_, a1_, a2_, leV, az_, ay_, V.inn, us, T9_, Ta_] <;> ((try simp [oe_]))))
   refine .rgn [] (by simp only [go_sem, seval, ar_, a1_]; rfl) ?_ ?_
   ·(first | trivial | (simp; done) | (simp only [T3_] at h16; have he := es_ (show q.1 < s.length by omega); first | exact ⟨by omega, hI.2.1⟩ | exact ⟨by omega, by omega⟩ | (refine ⟨by omega, by omega, by omega, by omega, by simp⟩) | (refine ⟨⟨⟨by omega, by omega, by omega, by omega, by simp⟩, rfl⟩, ?_⟩; simp; omega)))
   refine Exists.intro ((q.1 + dj_ (s.drop q.1), p)) ⟨?_, ?_, ?_⟩
   ·simp only [T3_] at h16; have he := es_ (show q.1 < s.length by omega); exact ⟨by dsimp only; omega, hI.2.1, by dsimp only; have := hJ.1; omega, hJ.2⟩
   ·simp only [T3_] at h16; have := es_ (show q.1 < s.length by omega); dsimp only; omega
   exact Can.weak (Weak.lit (by simp only [go_sem, seval, ar_, a1_, a2_, leV, az_, ay_, V.inn, us, T9_, Ta_] <;> ((try simp))) (by simp only [go_sem, seval, ar_, a1_, a2_, leV, az_, ay_, V.inn, us, T9_, Ta_]) (by simp only [go_sem, seval, ar_, a1_, a2_, leV, az_, ay_, V.inn, us, T9_, Ta_] <;> ((try simp))))
  ·refine .exit (.seq (.rgn [] (by simp only [go_sem, seval, ar_, a1_]; rfl) ?_ ?_))
   ·(first | trivial | (simp; done) | (simp only [T3_] at h16; have he := es_ (show q.1 < s.length by omega); first | exact ⟨by omega, hI.2.1⟩ | exact ⟨by omega, by omega⟩ | (refine ⟨by omega, by omega, by omega, by omega, by simp⟩) | (refine ⟨⟨⟨by omega, by omega, by omega, by omega, by simp⟩, rfl⟩, ?_⟩; simp; omega)))
   refine .frz 60 (by simp only [go_sem, seval, ar_, a1_]; rfl) (by simp only [go_sem, seval, ar_, a1_]) (by simp only [go_sem, seval, ar_, a1_]; rfl) (by simp only [go_sem, seval, ar_, a1_]; rfl) ?_
   refine .ret ⟨.inr rfl, ?_⟩
   exact Out.plainL (by simp only [Tryz.results108]; rfl) (by simp only [ba_, bs_, go_sem, seval, ar_, a1_] <;> (split <;> rfl)) (by simp only [bq_, go_sem, seval, ar_, a1_] <;> (simp only [T4_] at h16; rw [gr_ hI.2.1, hI.2.2.2, qk_ (by omega)]; simp [T1_, a1_, leV, bh_])) (by simp only [go_sem, seval, ar_, a1_])
end
section
set_option maxRecDepth 100000
set_option maxHeartbeats 4000000
end
section
set_option maxRecDepth 100000
set_option maxHeartbeats 4000000
theorem aaa_ (s : Sl) (i : Int) (h : sok s = true) (hs : fg_ s = true) : ACall En 100 [.ag (sC s), .i .i64 i] [] [.sl false (sgR (sgs i (tkE s) (emF s)))] [] := by
 have T : ACall En 108 [.s (emT s)] [] [.sl false (tkR (tkE s)), .b (dl_ (emT s)).isSome] [] := u1_ (emT s) (by have := ut_ h; omega)
 have hl := ad9_ h
 have hf := ry_ h
 refine an_ (fn := Tryz.f100) [] Tryz.func100 rfl rfl (by simp) fun C => ?_
 rw [bb_]
 simp only [Tryz.ntmps100, T7_, List.length_nil, Nat.reduceAdd, Nat.reduceSub, List.replicate_succ, List.replicate_zero, List.cons_append, List.nil_append, bu_]
 refine .seq (.rgn [] (by simp only [go_sem, seval, aa_, a1_, ar_, a0_, ah_, af_]; rfl) ?_ ?_)
 ·(first | trivial | (simp; done) | (simp only [T3_] at h25; have q := dm_ i (tkE s) (emF s) k; simp [cm_, ai_]; omega))
 refine .seq (.rgn [] (by simp only [go_sem, seval, aa_, a1_, ar_, a0_, ah_, af_]; rfl) ?_ ?_)
 ·(first | trivial | (simp; done) | (simp only [T3_] at h25; have q := dm_ i (tkE s) (emF s) k; simp [cm_, ai_]; omega))
 refine .seq (.rgn [br_ (tk_ s hs)] (by simp only [go_sem, seval, aa_, a1_, ar_, a0_, ah_, af_]; rfl) ?_ ?_)
 ·(first | trivial | (simp; done) | (simp only [T3_] at h25; have q := dm_ i (tkE s) (emF s) k; simp [cm_, ai_]; omega))
 refine .seq (.rgn [br_ T] (by simp only [go_sem, seval, aa_, a1_, ar_, a0_, ah_, af_]; rfl) ?_ ?_)
 ·(first | trivial | (simp; done) | (simp only [T3_] at h25; have q := dm_ i (tkE s) (emF s) k; simp [cm_, ai_]; omega))
 refine .seq (.seq (.rgn [] (by simp only [go_sem, seval, aa_, a1_, ar_, a0_, ah_, af_]; rfl) ?_ ?_))
 ·(first | trivial | (simp; done) | (simp only [T3_] at h25; have q := dm_ i (tkE s) (emF s) k; simp [cm_, ai_]; omega))
 refine .block (.loopK (fun k : Nat => ⟨[.no, .i .i64 i, .no, .no, .no, .ow 60 4 0 (sgK i (tkE s) (emF s) k).length, .no, .sl false (inR (emF s)), .sl false (tkR (tkE s)), .no, .i .i64 k, .no, .no, .no, .no, .no, .no, .no, .no, .no, .no, .no, .no, .no, .no, .no, .no, .no, .no, .no, .no, .no, .no, .no, .no, .no, .no, .no, .no, .no, .no, .no, .no, .no, .no, .no, .no, .no, .no, .no, .no], bf_ [(60, ⟨98, 4, sgR (sgK i (tkE s) (emF s) k)⟩)], us [60]⟩) (fun k : Nat => k ≤ (emF s).length) (fun k : Nat => (emF s).length - k) (0) ?_ ?_ (fun k hI => ?_))
 ·simp
 ·refine Can.trans (Can.ownSlot 5 60 98 4 (by simp only [go_sem, seval, aa_, a1_, ar_, a0_, ah_, af_] <;> rfl) (by simp only [go_sem, seval, aa_, a1_, ar_, a0_, ah_, af_]) (by simp only [go_sem, seval, aa_, a1_, ar_, a0_, ah_, af_] <;> rfl)) ?_
  exact Can.weak (Weak.lit (by simp only [go_sem, seval, aa_, a1_, ar_, a0_, ah_, af_, a2_, leV, az_, ay_, V.inn, us, T9_, Ta_] <;> (simp [kr_])) (by simp only [go_sem, seval, aa_, a1_, ar_, a0_, ah_, af_, a2_, leV, az_, ay_, V.inn, us, T9_, Ta_]) (by simp only [go_sem, seval, aa_, a1_, ar_, a0_, ah_, af_, a2_, leV, az_, ay_, V.inn, us, T9_, Ta_] <;> (simp [kr_, sgR])))
 refine .seq (.seq (.rgn [] (by simp only [go_sem, seval, aa_, a1_, ar_, a0_, ah_, af_]; rfl) ?_ ?_))
 ·(first | trivial | (simp; done) | (simp only [T3_] at h25; have q := dm_ i (tkE s) (emF s) k; simp [cm_, ai_]; omega))
 refine .condB (by simp only [go_sem, seval, aa_, a1_, ar_, a0_, ah_, af_]; rfl) (by simp only [go_sem, seval, aa_, a1_, ar_, a0_, ah_, af_]) (fun h25 => ?_) (fun h25 => ?_)
 ·refine .skip (.seqJ (fun u : Unit => ⟨[.no, .i .i64 i, .no, .no, .no, .ow 60 4 0 (sgK i (tkE s) (emF s) (k + 1)).length, .no, .sl false (inR (emF s)), .sl false (tkR (tkE s)), .no, .i .i64 k, .no, .no, .no, .no, .no, .no, .no, .no, .no, .no, .no, .no, .no, .no, .no, .no, .no, .no, .no, .no, .no, .no, .no, .no, .no, .no, .no, .no, .no, .no, .no, .no, .no, .no, .no, .no, .no, .no, .no, .no], bf_ [(60, ⟨98, 4, sgR (sgK i (tkE s) (emF s) (k + 1))⟩)], us [60]⟩) (fun u : Unit => True) ?_ (fun u hJ => ?_))
  ·refine .block (.seq (.rgn [] (by simp only [go_sem, seval, aa_, a1_, ar_, a0_, ah_, af_, hj_ (show k < (emF s).length by simpa using h25)]; rfl) ?_ ?_))
   ·(first | trivial | (simp; done) | (simp only [T3_] at h25; have q := dm_ i (tkE s) (emF s) k; simp [cm_, ai_]; omega))
   refine .condB (by simp only [go_sem, seval, aa_, a1_, ar_, a0_, ah_, af_]; rfl) (by simp only [go_sem, seval, aa_, a1_, ar_, a0_, ah_, af_]) (fun h32 => ?_) (fun h32 => ?_)
   ·refine .rgnD [] enM (by simp only [go_sem, seval, aa_, a1_, ar_, a0_, ah_, af_, hj_ (show k < (emF s).length by simpa using h25), w4_ (show k < (tkE s).length by simp at h25; omega)]; rfl) (by rfl) ?_ ?_
    ·(first | trivial | (simp; done) | (simp only [T3_] at h25; have q := dm_ i (tkE s) (emF s) k; simp [cm_, ai_]; omega))
    refine Exists.intro (()) ⟨?_, ?_⟩
    ·trivial
    refine Can.trans (Can.swap 59 60 (by decide) (by decide) (by decide) (by decide) (by simp only [go_sem, seval, aa_, a1_, ar_, a0_, ah_, af_, V.cl]) (by simp only [go_sem, seval, aa_, a1_, ar_, a0_, ah_, af_, V.cl]) (by simp only [go_sem, seval, aa_, a1_, ar_, a0_, ah_, af_, b9_, sw, swM, rnB] <;> rfl) (by simp only [go_sem, seval, aa_, a1_, ar_, a0_, ah_, af_, b9_, sw, swM, rnB] <;> rfl) (by simp only [go_sem, seval, aa_, a1_, ar_, a0_, ah_, af_, b9_, sw, swM, rnB] <;> rfl)) ?_
    exact Can.weak (Weak.lit (by simp only [go_sem, seval, aa_, a1_, ar_, a0_, ah_, af_, a2_, leV, az_, ay_, V.inn, us, T9_, Ta_] <;> (simp only [T3_] at h25; first | (rw [dr_ (by omega) (by omega), if_pos (by simpa using h32)]; simp; done) | (rw [dr_ (by omega) (by omega), if_neg (by simpa using h32)]; simp; done))) (by simp only [go_sem, seval, aa_, a1_, ar_, a0_, ah_, af_, a2_, leV, az_, ay_, V.inn, us, T9_, Ta_]) (by simp only [go_sem, seval, aa_, a1_, ar_, a0_, ah_, af_, a2_, leV, az_, ay_, V.inn, us, T9_, Ta_] <;> (simp only [T3_] at h25; first | (rw [dr_ (by omega) (by omega), if_pos (by simpa using h32)]; simp [sgR, sgC, T0k]; done) | (rw [dr_ (by omega) (by omega), if_neg (by simpa using h32)]; simp; done))))
   ·refine .skip ?_
    refine Exists.intro (()) ⟨?_, ?_⟩
    ·trivial
    exact Can.weak (Weak.lit (by simp only [go_sem, seval, aa_, a1_, ar_, a0_, ah_, af_, a2_, leV, az_, ay_, V.inn, us, T9_, Ta_] <;> (simp only [T3_] at h25; first | (rw [dr_ (by omega) (by omega), if_pos (by simpa using h32)]; simp; done) | (rw [dr_ (by omega) (by omega), if_neg (by simpa using h32)]; simp; done))) (by simp only [go_sem, seval, aa_, a1_, ar_, a0_, ah_, af_, a2_, leV, az_, ay_, V.inn, us, T9_, Ta_]) (by simp only [go_sem, seval, aa_, a1_, ar_, a0_, ah_, af_, a2_, leV, az_, ay_, V.inn, us, T9_, Ta_] <;> (simp only [T3_] at h25; first | (rw [dr_ (by omega) (by omega), if_pos (by simpa using h32)]; simp [sgR, sgC, T0k]; done) | (rw [dr_ (by omega) (by omega), if_neg (by simpa using h32)]; simp; done))))
  refine .rgn [] (by simp only [go_sem, seval, aa_, a1_, ar_, a0_, ah_, af_]; rfl) ?_ ?_
  ·(first | trivial | (simp; done) | (simp only [T3_] at h25; have q := dm_ i (tkE s) (emF s) k; simp [cm_, ai_]; omega))
  refine Exists.intro (k + 1) ⟨?_, ?_, ?_⟩
  ·simp at h25; omega
  ·simp at h25; omega
  exact Can.weak (Weak.lit (by simp only [go_sem, seval, aa_, a1_, ar_, a0_, ah_, af_, a2_, leV, az_, ay_, V.inn, us, T9_, Ta_] <;> (rw [bv_ (by simp at h25; omega) (by simp at h25; omega)]; simp)) (by simp only [go_sem, seval, aa_, a1_, ar_, a0_, ah_, af_, a2_, leV, az_, ay_, V.inn, us, T9_, Ta_]) (by simp only [go_sem, seval, aa_, a1_, ar_, a0_, ah_, af_, a2_, leV, az_, ay_, V.inn, us, T9_, Ta_]))
 ·refine .exit (.seq (.rgn [] (by simp only [go_sem, seval, aa_, a1_, ar_, a0_, ah_, af_]; rfl) ?_ ?_))
  ·(first | trivial | (simp; done) | (simp only [T3_] at h25; have q := dm_ i (tkE s) (emF s) k; simp [cm_, ai_]; omega))
  refine .frz 60 (by simp only [go_sem, seval, aa_, a1_, ar_, a0_, ah_, af_]; rfl) (by simp only [go_sem, seval, aa_, a1_, ar_, a0_, ah_, af_]) (by simp only [go_sem, seval, aa_, a1_, ar_, a0_, ah_, af_]; rfl) (by simp only [go_sem, seval, aa_, a1_, ar_, a0_, ah_, af_]; rfl) ?_
  refine .ret ⟨.inr rfl, ?_⟩
  exact Out.plain (by simp only [Tryz.results100]; rfl) (by simp only [ba_, bs_, go_sem, seval, aa_, a1_, ar_, a0_, ah_, af_] <;> (split <;> rfl)) (by simp only [bq_, go_sem, seval, aa_, a1_, ar_, a0_, ah_, af_] <;> (simp only [T4_] at h25; rw [xd_ (.inr (by omega))]; simp [T1_, ai_, peel])) (by simp only [go_sem, seval, aa_, a1_, ar_, a0_, ah_, af_])
theorem ui_ (l : List Sl) (hs : jo_ l = true) (hl : l.length < 4611686018427387904) : ACall En 34 [.sl false (sR l)] [] [.sl false (sgR (sgP l))] [] := by
 have hE : ∀ k, pok l = true ∧ k < l.length → ACall En 100 [.ag (sC (l.getD k S0)), .i .i64 k] [] [.sl false (sgR (sgS k (l.getD k S0)))] [] := fun k h => aaa_ (l.getD k S0) k ((co_ h.1).2.2 k h.2) (gp_ hs h.2)
 refine an_ (fn := Tryz.f34) [] Tryz.func34 rfl rfl (by simp) fun C => ?_
 rw [bb_]
 simp only [Tryz.ntmps34, T7_, List.length_nil, Nat.reduceAdd, Nat.reduceSub, List.replicate_succ, List.replicate_zero, List.cons_append, List.nil_append, bu_]
 refine .seq (.rgn [] (by simp only [go_sem, seval, aq_, am_, aa_, af_, ai_]; rfl) ?_ ?_)
 ·(first | trivial | (simp; done) | (simp only [T5_, T3_] at h13; obtain ⟨hk, hp⟩ := h13; have h2 := (co_ hp).2.2 k (by omega); have q1 := c5_ hp (k := k) (by omega); have q2 := cy_ (i := k) h2; exact ⟨⟨⟨by omega, by omega⟩, hp, by omega⟩, of_eq_true (cc_ _), by simp, by omega⟩))
 refine .seq (.rgn [] (by simp only [go_sem, seval, aq_, am_, aa_, af_, ai_]; rfl) ?_ ?_)
 ·(first | trivial | (simp; done) | (simp only [T5_, T3_] at h13; obtain ⟨hk, hp⟩ := h13; have h2 := (co_ hp).2.2 k (by omega); have q1 := c5_ hp (k := k) (by omega); have q2 := cy_ (i := k) h2; exact ⟨⟨⟨by omega, by omega⟩, hp, by omega⟩, of_eq_true (cc_ _), by simp, by omega⟩))
 refine .seq (.seq (.rgn [] (by simp only [go_sem, seval, aq_, am_, aa_, af_, ai_]; rfl) ?_ ?_))
 ·(first | trivial | (simp; done) | (simp only [T5_, T3_] at h13; obtain ⟨hk, hp⟩ := h13; have h2 := (co_ hp).2.2 k (by omega); have q1 := c5_ hp (k := k) (by omega); have q2 := cy_ (i := k) h2; exact ⟨⟨⟨by omega, by omega⟩, hp, by omega⟩, of_eq_true (cc_ _), by simp, by omega⟩))
 refine .block (.loopK (fun k : Nat => ⟨[.sl false (sR l), .no, .no, .ow 60 4 0 (sgN l k).length, .i .i64 k, .no, .no, .no, .no, .no, .no, .no, .no, .no, .no, .no, .no, .no, .no, .no, .no, .no, .no, .no, .no], bf_ [(60, ⟨98, 4, sgR (sgN l k)⟩)], us [60]⟩) (fun k : Nat => k ≤ l.length ∧ (0 < k → pok l = true)) (fun k : Nat => l.length - k) (0) ?_ ?_ (fun k hI => ?_))
 ·exact ⟨by simp, fun h => by omega⟩
 ·refine Can.trans (Can.ownSlot 3 60 98 4 (by simp only [go_sem, seval, aq_, am_, aa_, af_, ai_] <;> rfl) (by simp only [go_sem, seval, aq_, am_, aa_, af_, ai_]) (by simp only [go_sem, seval, aq_, am_, aa_, af_, ai_] <;> rfl)) ?_
  exact Can.weak (Weak.lit (by simp only [go_sem, seval, aq_, am_, aa_, af_, ai_, a2_, leV, az_, ay_, V.inn, us, T9_, Ta_] <;> (simp [sgN])) (by simp only [go_sem, seval, aq_, am_, aa_, af_, ai_, a2_, leV, az_, ay_, V.inn, us, T9_, Ta_]) (by simp only [go_sem, seval, aq_, am_, aa_, af_, ai_, a2_, leV, az_, ay_, V.inn, us, T9_, Ta_] <;> (simp [sgN, sgR])))
 refine .seq (.seq (.rgn [br_ (yh_ l hs hl)] (by simp only [go_sem, seval, aq_, am_, aa_, af_, ai_]; rfl) ?_ ?_))
 ·(first | trivial | (simp; done) | (simp only [T5_, T3_] at h13; obtain ⟨hk, hp⟩ := h13; have h2 := (co_ hp).2.2 k (by omega); have q1 := c5_ hp (k := k) (by omega); have q2 := cy_ (i := k) h2; exact ⟨⟨⟨by omega, by omega⟩, hp, by omega⟩, of_eq_true (cc_ _), by simp, by omega⟩))
 refine .condB (by simp only [go_sem, seval, aq_, am_, aa_, af_, ai_]; rfl) (by simp only [go_sem, seval, aq_, am_, aa_, af_, ai_]) (fun h13 => ?_) (fun h13 => ?_)
 ·refine .skip (.seq (.block (.rgn [dw_ (pok l = true ∧ k < l.length) (hE k)] (by simp only [go_sem, seval, aq_, am_, aa_, af_, ai_, g9_ (show k < l.length by simp at h13; exact h13.1), aa_]; rfl) ?_ ?_)))
  ·(first | trivial | (simp; done) | (simp only [T5_, T3_] at h13; obtain ⟨hk, hp⟩ := h13; have h2 := (co_ hp).2.2 k (by omega); have q1 := c5_ hp (k := k) (by omega); have q2 := cy_ (i := k) h2; exact ⟨⟨⟨by omega, by omega⟩, hp, by omega⟩, of_eq_true (cc_ _), by simp, by omega⟩))
  refine .rgn [] (by simp only [go_sem, seval, aq_, am_, aa_, af_, ai_]; rfl) ?_ ?_
  ·(first | trivial | (simp; done) | (simp only [T5_, T3_] at h13; obtain ⟨hk, hp⟩ := h13; have h2 := (co_ hp).2.2 k (by omega); have q1 := c5_ hp (k := k) (by omega); have q2 := cy_ (i := k) h2; exact ⟨⟨⟨by omega, by omega⟩, hp, by omega⟩, of_eq_true (cc_ _), by simp, by omega⟩))
  refine Exists.intro (k + 1) ⟨?_, ?_, ?_⟩
  ·simp at h13; exact ⟨by omega, fun _ => h13.2⟩
  ·simp at h13; omega
  refine Can.trans (Can.swap 33 60 (by decide) (by decide) (by decide) (by decide) (by simp only [go_sem, seval, aq_, am_, aa_, af_, ai_, V.cl]) (by simp only [go_sem, seval, aq_, am_, aa_, af_, ai_, V.cl]) (by simp only [go_sem, seval, aq_, am_, aa_, af_, ai_, b9_, sw, swM, rnB] <;> rfl) (by simp only [go_sem, seval, aq_, am_, aa_, af_, ai_, b9_, sw, swM, rnB] <;> rfl) (by simp only [go_sem, seval, aq_, am_, aa_, af_, ai_, b9_, sw, swM, rnB] <;> rfl)) ?_
  exact Can.weak (Weak.lit (by simp only [go_sem, seval, aq_, am_, aa_, af_, ai_, a2_, leV, az_, ay_, V.inn, us, T9_, Ta_] <;> (rw [bv_ (by simp at h13; omega) (by simp at h13; omega)]; simp [sgN])) (by simp only [go_sem, seval, aq_, am_, aa_, af_, ai_, a2_, leV, az_, ay_, V.inn, us, T9_, Ta_]) (by simp only [go_sem, seval, aq_, am_, aa_, af_, ai_, a2_, leV, az_, ay_, V.inn, us, T9_, Ta_] <;> (simp [sgN, ru_])))
 ·refine .exit (.seq (.rgn [] (by simp only [go_sem, seval, aq_, am_, aa_, af_, ai_]; rfl) ?_ ?_))
  ·(first | trivial | (simp; done) | (simp only [T5_, T3_] at h13; obtain ⟨hk, hp⟩ := h13; have h2 := (co_ hp).2.2 k (by omega); have q1 := c5_ hp (k := k) (by omega); have q2 := cy_ (i := k) h2; exact ⟨⟨⟨by omega, by omega⟩, hp, by omega⟩, of_eq_true (cc_ _), by simp, by omega⟩))
  refine .frz 60 (by simp only [go_sem, seval, aq_, am_, aa_, af_, ai_]; rfl) (by simp only [go_sem, seval, aq_, am_, aa_, af_, ai_]) (by simp only [go_sem, seval, aq_, am_, aa_, af_, ai_]; rfl) (by simp only [go_sem, seval, aq_, am_, aa_, af_, ai_]; rfl) ?_
  refine .ret ⟨.inr rfl, ?_⟩
  exact Out.plain (by simp only [Tryz.results34]; rfl) (by simp only [ba_, bs_, go_sem, seval, aq_, am_, aa_, af_, ai_] <;> (split <;> rfl)) (by simp only [bq_, go_sem, seval, aq_, am_, aa_, af_, ai_] <;> (by_cases hp : pok l = true; (rw [hp, Bool.and_true] at h13; simp at h13; (obtain rfl : k = l.length := (by omega)); rw [T1_ (by rw [ai_]; exact Nat.le_refl _)]; unfold sgP; rw [if_pos hp]); (have h0 : k = 0 := (by rcases Nat.eq_zero_or_pos k with q | q; exact q; exact absurd (hI.2 q) hp); subst h0; simp [sgP, hp, sgN, sgR]))) (by simp only [go_sem, seval, aq_, am_, aa_, af_, ai_])
end
end Go.Proofs.YtcigkafioinfoaaGreatDoor
