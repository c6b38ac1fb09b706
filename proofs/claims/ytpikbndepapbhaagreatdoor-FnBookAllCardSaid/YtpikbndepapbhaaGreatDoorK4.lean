/- Tree logic, part 28: two aggregates of numbers, one held against the other. Conditions: none. -/
import Derived.Test.YtpikbndepapbhaaGreatDoorKb
import Derived.Laws.StructEq
import Derived.Test.YtpikbndepapbhaaGreatDoorKn
import Derived.Test.YtpikbndepapbhaaGreatDoorKg
import Derived.Test.YtpikbndepapbhaaGreatDoorKd
import Derived.Test.YtpikbndepapbhaaGreatDoorK3
import Derived.Test.YtpikbndepapbhaaGreatDoorK1
set_option linter.unusedVariables false
set_option linter.unusedSimpArgs false
namespace Go.Proofs.YtpikbndepapbhaaGreatDoor
section
open Go.RowKit
def dz_ : List V → Option (List Int)
 | [] => some []
 | .i .i64 n :: r => (dz_ r).map (n :: ·)
 | _ :: _ => none
def cq_ : V → Option (List Int)
 | .ag xs => dz_ xs
 | _ => none
theorem qj_ {φ : Phi} {S : Nat → Prop} {w : World} : ∀ {vs : List V} {xs : List Value} {l : List Int}, VRs φ S w vs xs → dz_ vs = some l → xs = l.map (Value.int .i64)
 | [], xs, l, h, e => by
  simp only [dz_, Option.some.injEq] at e
  subst e
  simp only [VRs] at h
  subst h; rfl
 | v :: vs, xs, l, h, e => by
  simp only [VRs] at h
  obtain ⟨x, r, rfl, h1, h2⟩ := h
  cases v <;> try (simp [dz_] at e; done)
  rename_i k n
  cases k <;> try (simp [dz_] at e; done)
  simp only [dz_] at e
  obtain ⟨l', e1, rfl⟩ := Option.map_eq_some_iff.1 e
  simp only [VR] at h1
  rw [h1, qj_ h2 e1]; rfl
def adb_ (P : Program) (t : TypeId) (n : Nat) : Prop := P.eqGuardType P.depth t = false ∧ ∀ (w : World) (xs ys : List Int), xs.length = n → ys.length = n → (Op.equalIn 10000 t (.agg (xs.map (Value.int .i64)).toArray) (.agg (ys.map (Value.int .i64)).toArray)).run P w = .ok (xs == ys) w
def el_ : BinOp → Option (List Int) → Option (List Int) → Bool
 | .neq, a, b => !(a == b)
 | _, a, b => a == b
theorem o5_ {φ : Phi} {S : Nat → Prop} {w : World} {v : V} {x : Value} {l : List Int} (h : VR φ S w v x) (e : cq_ v = some l) : x = .agg (l.map (Value.int .i64)).toArray := by
 cases v <;> try (simp [cq_] at e; done)
 rename_i xs
 simp only [cq_] at e
 simp only [VR] at h
 obtain ⟨ys, rfl, hy⟩ := h
 have := qj_ hy e
 congr 1
 apply Array.ext'; simpa using this
def ex_ (E : Env) (op : BinOp) (t : TypeId) (n : Nat) (H : adb_ E.P t n) : CallC E where
 ef := fun o s => match o.op with
  | .binOp _ _ x y _ => { v := .b (el_ op (cq_ (s.pv E x)) (cq_ (s.pv E y))) }
  | _ => { v := .no }
 ob := fun o s => pcB E o s = true ∧ match o.op with
  | .binOp op' t' x y _ => op' = op ∧ t' = t ∧ (op = .eql ∨ op = .neq) ∧ (cq_ (s.pv E x)).map List.length = some n ∧ (cq_ (s.pv E y)).map List.length = some n
  | _ => False
 ok := fun o s ⟨h1, h2⟩ => by
  obtain ⟨dst, op0, ty, pos, after, guard⟩ := o
  split at h2
  ·rename_i op' t' x y t2 ho
   dsimp only at ho
   subst ho
   obtain ⟨rfl, rfl, hop, hx, hy⟩ := h2
   obtain ⟨xs, ex, lx⟩ := Option.map_eq_some_iff.1 hx
   obtain ⟨ys, ey, ly⟩ := Option.map_eq_some_iff.1 hy
   refine Op1.pure' (b3_ h1) fun φ S w ρ hr _ => ?_
   have k1 := o5_ (hr x (by simp [Op.operands])) ex
   have k2 := o5_ (hr y (by simp [Op.operands])) ey
   have hE := H.2 w xs ys lx ly
   rw [ex, ey]
   rcases hop with rfl | rfl
   ·exact ⟨.bool (xs == ys), by simp [execOp, k1, k2, run_eqGuard_agg w .eql _ x y _ _ H.1, run_eql_struct, hE, Result.andThen], by simp [VR, el_]⟩
   ·exact ⟨.bool (!(xs == ys)), by simp [execOp, k1, k2, run_eqGuard_agg w .neq _ x y _ _ H.1, run_neq_struct, hE, Result.andThen], by simp [VR, el_]⟩
  ·exact h2.elim
end
section
set_option maxRecDepth 100000
set_option maxHeartbeats 4000000
theorem jt_ (s : Str) : (decide ((s.length : Int) > 0) && (((s.getD 0 0).toNat : Int) == 45)) = (s.head? == some 45) := by
 cases s with
 | nil => rfl
 | cons c r =>
  have h : decide (((c :: r).length : Int) > 0) = true := by simp only [T7_, T3_]; omega
  rw [h, Bool.true_and]
  simp only [List.getD_cons_zero, List.head?_cons]
  rw [Bool.eq_iff_iff]
  simp only [beq_iff_eq, Option.some.injEq]
  constructor
  ·intro e; apply UInt8.toNat_inj.1; show _ = 45; omega
  ·intro e; rw [e]; rfl
theorem rc_ : ∀ (k : Nat) (l : Str), k ≤ l.length → (l.take k).all ch_ = true → b2_ (l.take k) < 10 ^ k
 | 0, l, _, _ => by simp [b2_]
 | k + 1, l, hk, h => by
  have e : l.take (k + 1) = l.take k ++ [l.getD k 0] := by
   rw [List.take_add_one, T6_ hk, T8_, T6_ hk]; rfl
  rw [e, List.all_append, T5_] at h
  have ih := rc_ k l (by omega) h.1
  rw [e, hn_, Nat.pow_succ]
  have hd : ch_ (l.getD k 0) = true := by simpa using h.2
  simp only [ch_, T5_, T3_] at hd
  omega
theorem adi_ {l : Str} {k : Nat} (hk : k < l.length) : b2_ (l.take (k + 1)) = b2_ (l.take k) * 10 + ((l.getD k 0).toNat - 48) := by
 have e : l.take (k + 1) = l.take k ++ [l.getD k 0] := by
  rw [List.take_add_one, T6_ hk, T8_, T6_ hk]; rfl
 rw [e, hn_]
theorem aeb_ {l : Str} {k : Nat} (hk : k ≤ l.length) (h17 : l.length ≤ 17) (h : (l.take k).all ch_ = true) : b2_ (l.take k) < 100000000000000000 := by
 have := rc_ k l hk h
 have h2 : 10 ^ k ≤ 10 ^ 17 := Nat.pow_le_pow_right (by decide) (by omega)
 have h3 : (10 : Nat) ^ 17 = 100000000000000000 := by decide
 omega
def i8_ (s : Str) : Bool := s.head? == some 45
def c3_ (s : Str) : Str := if i8_ s then s.tail else s
theorem ob_ (s : Str) : h3_ s = if (c3_ s).length = 0 ∨ 17 < (c3_ s).length ∨ ((c3_ s).head? = some 48 ∧ (1 < (c3_ s).length ∨ i8_ s = true)) then (0, false) else if (c3_ s).all ch_ then (if i8_ s then -(b2_ (c3_ s) : Int) else b2_ (c3_ s), true) else (0, false) := rfl
theorem ag9_ (q : Str) (h : q ≠ []) : (((q.getD 0 0).toNat : Int) == 48) = decide (q.head? = some 48) := by
 cases q with
 | nil => exact absurd rfl h
 | cons c r =>
  simp only [List.getD_cons_zero, List.head?_cons, Option.some.injEq]
  rw [Bool.eq_iff_iff]
  simp only [beq_iff_eq, T3_]
  constructor
  ·intro e; apply UInt8.toNat_inj.1; show _ = 48; omega
  ·intro e; rw [e]; rfl
theorem af4_ (q : Str) (n : Bool) : (((q.length : Int) == 0) || decide ((q.length : Int) > 17) || (((q.getD 0 0).toNat : Int) == 48) && (decide ((q.length : Int) > 1) || n)) = decide (q.length = 0 ∨ 17 < q.length ∨ (q.head? = some 48 ∧ (1 < q.length ∨ n = true))) := by
 by_cases hq : q = []
 ·subst hq; simp
 ·rw [ag9_ q hq, Bool.eq_iff_iff]
  simp only [Bool.or_eq_true, T5_, beq_iff_eq, T3_]
  constructor
  ·rintro ((h | h) | ⟨h1, h2 | h2⟩)
   ·exact .inl (by omega)
   ·exact .inr (.inl (by omega))
   ·exact .inr (.inr ⟨h1, .inl (by omega)⟩)
   ·exact .inr (.inr ⟨h1, .inr h2⟩)
  ·rintro (h | h | ⟨h1, h2 | h2⟩)
   ·exact .inl (.inl (by omega))
   ·exact .inl (.inr (by omega))
   ·exact .inr ⟨h1, .inl (by omega)⟩
   ·exact .inr ⟨h1, .inr h2⟩
theorem w2_ {s : Str} (h : (((c3_ s).length : Int) == 0 || decide (((c3_ s).length : Int) > 17) || ((((c3_ s).getD 0 0).toNat : Int) == 48) && (decide (((c3_ s).length : Int) > 1) || i8_ s)) = true) : h3_ s = (0, false) := by
 rw [af4_] at h
 rw [ob_, if_pos (of_decide_eq_true h)]
theorem oq_ {s : Str} (h : (((c3_ s).length : Int) == 0 || decide (((c3_ s).length : Int) > 17) || ((((c3_ s).getD 0 0).toNat : Int) == 48) && (decide (((c3_ s).length : Int) > 1) || i8_ s)) = false) : (c3_ s).length ≤ 17 ∧ h3_ s = (if (c3_ s).all ch_ then (if i8_ s then -(b2_ (c3_ s) : Int) else b2_ (c3_ s), true) else (0, false)) := by
 rw [af4_] at h
 have := of_decide_eq_false h
 exact ⟨by omega, by rw [ob_, if_neg this]⟩
theorem zs_ (c : UInt8) : ∀ (s : Str) (k : Nat), k < s.length → c ∉ s.take k → s.getD k 0 = c → Lib.indexByte s c = k
 | [], k, h, _, _ => by simp at h
 | b :: s, 0, _, _, e => by
  simp only [List.getD_cons_zero] at e
  subst e
  unfold Lib.indexByte; simp
 | b :: s, k + 1, h, hn, e => by
  simp only [List.take_succ_cons, List.mem_cons, not_or] at hn
  have ih := zs_ c s k (by simpa using h) hn.2 (by simpa using e)
  unfold Lib.indexByte
  rw [if_neg (by simpa using fun q => hn.1 q.symm), ih, if_neg (by simp)]; rfl
theorem ag1_ (c : UInt8) (s : Str) (h : c ∉ s) : Lib.indexByte s c = -1 := by
 have h1 := oo_ s c
 have h2 : ¬ 0 ≤ Lib.indexByte s c := fun q => h ((sh_ s c).1 q)
 omega
theorem agv_ {a b : UInt8} (h : ((a.toNat : Int) == (b.toNat : Int)) = true) : a = b := by
 simp only [beq_iff_eq] at h
 apply UInt8.toNat_inj.1; omega
theorem agn_ {a b : UInt8} (h : ((a.toNat : Int) == (b.toNat : Int)) = false) : a ≠ b := by
 rintro rfl; simp at h
theorem ac9_ {s : Str} {k : Nat} {c : UInt8} (hk : k < s.length) (h : c ∉ s.take k) (h2 : s.getD k 0 ≠ c) : c ∉ s.take (k + 1) := by
 rw [List.take_add_one, T6_ hk]
 rw [T8_, T6_ hk] at h2
 simp only [Option.toList, List.mem_append, List.mem_cons, List.not_mem_nil, or_false, not_or]
 exact ⟨h, fun e => h2 e.symm⟩
theorem adr_ {c : UInt8} (h : (decide ((c.toNat : Int) < 48) || decide ((c.toNat : Int) > 57)) = true) : ch_ c = false := by
 simp only [Bool.or_eq_true, T3_] at h
 rw [Bool.eq_false_iff]
 intro q
 simp only [ch_, T5_, T3_] at q
 omega
theorem qh_ {c : UInt8} (h : (decide ((c.toNat : Int) < 48) || decide ((c.toNat : Int) > 57)) = false) : ch_ c = true ∧ 48 ≤ c.toNat ∧ c.toNat ≤ 57 := by
 simp only [Bool.or_eq_false_iff, T4_] at h
 simp only [ch_, T5_, T3_]
 omega
theorem akp_ {n : Int} (h1 : 0 ≤ n) (h2 : n < 256) : IntKind.u8.wrap n = n := by
 have e : (2 : Int) ^ IntKind.u8.bits = 256 := rfl
 have e' : IntKind.u8.signed = false := rfl
 simp only [IntKind.wrap, e, e', Bool.false_and, Bool.false_eq_true, if_false]
 omega
theorem ah2_ {q : Str} {k : Nat} (hk : k < q.length) : (q.take (k + 1)).all ch_ = ((q.take k).all ch_ && ch_ (q.getD k 0)) := by
 rw [List.take_add_one, T6_ hk, List.all_append, T8_, T6_ hk]; simp
theorem t4_ (s : Str) (hs : s.length ≤ 281474976710656) : ACall En 218 [.s s] [] [.i .i64 (h3_ s).1, .b (h3_ s).2] [] := by
 have hq : (c3_ s).length ≤ s.length := by unfold c3_; split <;> simp
 have hN := ob_ s
 refine aj_ (fn := Tryz.f218) [] Tryz.func218 rfl rfl (by simp) fun C => ?_
 rw [a0_]
 simp only [Tryz.ntmps218, T7_, List.length_nil, Nat.reduceAdd, Nat.reduceSub, List.replicate_succ, List.replicate_zero, List.cons_append, List.nil_append, bq_]
 refine .seq (.rgn [] (by simp only [go_sem, seval]; rfl) ?_ ?_)
 ·first | trivial | simp
 refine .seq (.rgn [] (by simp only [go_sem, seval]; rfl) ?_ ?_)
 ·first | trivial | simp
 refine .seqJ (fun q : Str => ⟨[.s q, .no, .no, .no, .b (i8_ s), .no, .no, .no, .no, .no, .no, .no, .no, .no, .no, .no, .no, .no, .no, .no, .no, .no, .no, .no, .no, .no, .no, .no, .no, .no, .no, .no, .no, .no, .no, .no, .no, .no, .no, .no, .no, .no, .no, .no, .no, .no, .no, .no, .no, .no, .no, .no, .no, .no, .no, .no, .no, .no, .no, .no, .no, .no, .no, .no, .no, .no, .no], bg_ [], us []⟩) (fun q : Str => q = c3_ s) ?_ (fun q hJ => ?_)
 ·refine .seq (.rgn [] (by simp only [go_sem, seval]; rfl) ?_ ?_)
  ·first | trivial | simp
  refine .condB (by simp only [go_sem, seval]; rfl) (by simp only [go_sem, seval]) (fun h15 => ?_) (fun h15 => ?_)
  ·refine .rgn [] (by simp only [go_sem, seval]; rfl) ?_ ?_
   ·rw [T5_] at h15; have h0 := of_decide_eq_true h15.1; omega
   refine Exists.intro (s.drop 1) ⟨?_, ?_⟩
   ·rw [jt_] at h15; unfold c3_ i8_; rw [h15]; simp
   exact Can.weak (Weak.lit (by simp only [go_sem, seval, av_, leV, at_, au_, V.inn, us, T9_, Ta_] <;> (first | (refine ⟨by simp [T1_], ?_⟩; rw [jt_]; rfl) | (rw [jt_]; rfl))) (by simp only [go_sem, seval, av_, leV, at_, au_, V.inn, us, T9_, Ta_]) (by simp only [go_sem, seval, av_, leV, at_, au_, V.inn, us, T9_, Ta_]))
  ·refine .skip ?_
   refine Exists.intro (s) ⟨?_, ?_⟩
   ·rw [jt_] at h15; unfold c3_ i8_; rw [h15]; simp
   exact Can.weak (Weak.lit (by simp only [go_sem, seval, av_, leV, at_, au_, V.inn, us, T9_, Ta_] <;> (first | (refine ⟨by simp [T1_], ?_⟩; rw [jt_]; rfl) | (rw [jt_]; rfl))) (by simp only [go_sem, seval, av_, leV, at_, au_, V.inn, us, T9_, Ta_]) (by simp only [go_sem, seval, av_, leV, at_, au_, V.inn, us, T9_, Ta_]))
 refine .seq (.seq (.rgn [] (by simp only [go_sem, seval]; rfl) ?_ ?_))
 ·refine ⟨⟨⟨⟨fun h => by rw [h]; rfl, fun h => ⟨h, by simp only [Bool.not_eq_true', Bool.or_eq_false_iff, beq_eq_false_iff_ne] at h; have := h.1; omega⟩⟩, fun h => ⟨h, fun h2 => by rw [h, h2]; rfl⟩⟩, fun h => ⟨h, fun h2 => by rw [h, h2]; rfl⟩⟩, fun h => by rw [h]; rfl⟩
 refine .condB (by simp only [go_sem, seval]; rfl) (by simp only [go_sem, seval]) (fun h38 => ?_) (fun h38 => ?_)
 ·refine .seq (.rgn [] (by simp only [go_sem, seval]; rfl) ?_ ?_)
  ·first | trivial | simp
  refine .ret ⟨.inr rfl, ?_⟩
  exact Out.plain (by simp only [Tryz.results218]; rfl) (by simp only [a1_, a9_, go_sem, seval] <;> (split <;> rfl)) (by simp only [a8_, go_sem, seval] <;> (subst hJ; rw [w2_ h38])) (by simp only [go_sem, seval])
 ·refine .skip (.seq (.rgn [] (by simp only [go_sem, seval]; rfl) ?_ ?_))
  ·first | trivial | simp
  refine .seq (.seq (.rgn [] (by simp only [go_sem, seval]; rfl) ?_ ?_))
  ·first | trivial | simp
  refine .block (.loopK (fun k : Nat => ⟨[.s q, .no, .no, .no, .b (i8_ s), .i .i64 (b2_ (q.take k)), .i .i64 k, .no, .no, .no, .no, .no, .no, .no, .no, .no, .no, .no, .no, .no, .no, .no, .no, .no, .no, .no, .no, .no, .no, .no, .no, .no, .no, .no, .no, .no, .no, .no, .no, .no, .no, .no, .no, .no, .no, .no, .no, .no, .no, .no, .no, .no, .no, .no, .no, .no, .no, .no, .no, .no, .no, .no, .no, .no, .no, .no, .no], bg_ [], us []⟩) (fun k : Nat => k ≤ q.length ∧ q.length ≤ 17 ∧ (q.take k).all ch_ = true) (fun k : Nat => q.length - k) (0) ?_ ?_ (fun k hI => ?_))
  ·subst hJ; exact ⟨Nat.zero_le _, (oq_ h38).1, by simp⟩
  ·exact Can.weak (Weak.lit (by simp only [go_sem, seval, av_, leV, at_, au_, V.inn, us, T9_, Ta_] <;> (simp [b2_])) (by simp only [go_sem, seval, av_, leV, at_, au_, V.inn, us, T9_, Ta_]) (by simp only [go_sem, seval, av_, leV, at_, au_, V.inn, us, T9_, Ta_]))
  refine .seq (.seq (.rgn [] (by simp only [go_sem, seval]; rfl) ?_ ?_))
  ·first | trivial | simp
  refine .condB (by simp only [go_sem, seval]; rfl) (by simp only [go_sem, seval]) (fun h42 => ?_) (fun h42 => ?_)
  ·refine .skip (.seq (.block (.seq (.seq (.rgn [] (by simp only [go_sem, seval]; rfl) ?_ ?_)))))
   ·simp only [T3_] at h42; exact ⟨⟨⟨by omega, by omega⟩, fun h => ⟨h, by omega, by omega⟩⟩, fun h => by rw [h]; rfl⟩
   refine .condB (by simp only [go_sem, seval]; rfl) (by simp only [go_sem, seval]) (fun h54 => ?_) (fun h54 => ?_)
   ·refine .seq (.rgn [] (by simp only [go_sem, seval]; rfl) ?_ ?_)
    ·first | trivial | simp
    refine .ret ⟨.inr rfl, ?_⟩
    exact Out.plain (by simp only [Tryz.results218]; rfl) (by simp only [a1_, a9_, go_sem, seval] <;> (split <;> rfl)) (by simp only [a8_, go_sem, seval] <;> (subst hJ; simp only [T3_] at h42; rw [(oq_ h38).2, if_neg]; intro h; have := List.all_eq_true.1 h _ (bk_ (d := 0) (show k < (c3_ s).length by omega)); rw [adr_ h54] at this; cases this)) (by simp only [go_sem, seval])
   ·refine .skip (.rgn [] (by simp only [go_sem, seval]; rfl) ?_ ?_)
    ·simp only [T3_] at h42; exact ⟨by omega, by omega⟩
    refine .rgn [] (by simp only [go_sem, seval]; rfl) ?_ ?_
    ·first | trivial | simp
    refine Exists.intro (k + 1) ⟨?_, ?_, ?_⟩
    ·simp only [T3_] at h42; exact ⟨by omega, hI.2.1, by rw [ah2_ (by omega), hI.2.2, (qh_ h54).1]; rfl⟩
    ·simp at h42; omega
    exact Can.weak (Weak.lit (by simp only [go_sem, seval, av_, leV, at_, au_, V.inn, us, T9_, Ta_] <;> ((simp only [T3_] at h42); (have hb := aeb_ hI.1 hI.2.1 hI.2.2); (have hd := qh_ h54); rw [akp_ (by omega) (by omega), bh_ (show -9223372036854775808 ≤ (((q.getD k 0).toNat : Int) - 48) by omega) (by omega), bh_ (show -9223372036854775808 ≤ ((b2_ (q.take k) : Int) * 10) by omega) (by omega), bh_ (by omega) (by omega), bh_ (by omega) (by omega), adi_ (show k < q.length by omega)]; omega)) (by simp only [go_sem, seval, av_, leV, at_, au_, V.inn, us, T9_, Ta_]) (by simp only [go_sem, seval, av_, leV, at_, au_, V.inn, us, T9_, Ta_]))
  ·refine .exit (.seqJ (fun v : Int => ⟨[.no, .no, .no, .no, .no, .i .i64 v, .no, .no, .no, .no, .no, .no, .no, .no, .no, .no, .no, .no, .no, .no, .no, .no, .no, .no, .no, .no, .no, .no, .no, .no, .no, .no, .no, .no, .no, .no, .no, .no, .no, .no, .no, .no, .no, .no, .no, .no, .no, .no, .no, .no, .no, .no, .no, .no, .no, .no, .no, .no, .no, .no, .no, .no, .no, .no, .no, .no, .no], bg_ [], us []⟩) (fun v : Int => v = (if i8_ s then -(b2_ q : Int) else b2_ q) ∧ q.all ch_ = true) ?_ (fun v hJ => ?_))
   ·refine .seq (.rgn [] (by simp only [go_sem, seval]; rfl) ?_ ?_)
    ·first | trivial | simp
    refine .condB (by simp only [go_sem, seval]; rfl) (by simp only [go_sem, seval]) (fun h63 => ?_) (fun h63 => ?_)
    ·refine .rgn [] (by simp only [go_sem, seval]; rfl) ?_ ?_
     ·first | trivial | simp
     refine Exists.intro (-(b2_ q : Int)) ⟨?_, ?_⟩
     ·simp only [T4_] at h42; (have h2 := hI.2.2); rw [T1_ (by omega)] at h2; rw [h63]; exact ⟨by simp, h2⟩
     exact Can.weak (Weak.lit (by simp only [go_sem, seval, av_, leV, at_, au_, V.inn, us, T9_, Ta_] <;> ((simp only [T4_] at h42); (have hb := aeb_ hI.1 hI.2.1 hI.2.2); rw [T1_ (by omega)] at hb ⊢; (try first | (rw [bh_ (by omega) (by omega)] <;> omega) | rfl))) (by simp only [go_sem, seval, av_, leV, at_, au_, V.inn, us, T9_, Ta_]) (by simp only [go_sem, seval, av_, leV, at_, au_, V.inn, us, T9_, Ta_]))
    ·refine .skip ?_
     refine Exists.intro ((b2_ q : Int)) ⟨?_, ?_⟩
     ·simp only [T4_] at h42; (have h2 := hI.2.2); rw [T1_ (by omega)] at h2; rw [h63]; exact ⟨by simp, h2⟩
     exact Can.weak (Weak.lit (by simp only [go_sem, seval, av_, leV, at_, au_, V.inn, us, T9_, Ta_] <;> ((simp only [T4_] at h42); (have hb := aeb_ hI.1 hI.2.1 hI.2.2); rw [T1_ (by omega)] at hb ⊢; (try first | (rw [bh_ (by omega) (by omega)] <;> omega) | rfl))) (by simp only [go_sem, seval, av_, leV, at_, au_, V.inn, us, T9_, Ta_]) (by simp only [go_sem, seval, av_, leV, at_, au_, V.inn, us, T9_, Ta_]))
   refine .seq (.rgn [] (by simp only [go_sem, seval]; rfl) ?_ ?_)
   ·first | trivial | simp
   refine .ret ⟨.inr rfl, ?_⟩
   exact Out.plain (by simp only [Tryz.results218]; rfl) (by simp only [a1_, a9_, go_sem, seval] <;> (split <;> rfl)) (by simp only [a8_, go_sem, seval] <;> (obtain ⟨j1, j2⟩ := hJ; (have e : q = c3_ s := (by assumption)); subst e; rw [(oq_ h38).2, if_pos j2, ← j1])) (by simp only [go_sem, seval])
theorem x7_ (s : Str) (hs : s.length ≤ 281474976710656) : ACall En 210 [.s s] [] [.b (cs_ s)] [] := by
 have h := (u2_ s).1
 refine aj_ (fn := Tryz.f210) [] Tryz.func210 rfl rfl (by simp) fun C => ?_
 rw [a0_]
 simp only [Tryz.ntmps210, T7_, List.length_nil, Nat.reduceAdd, Nat.reduceSub, List.replicate_succ, List.replicate_zero, List.cons_append, List.nil_append, bq_]
 refine .seq (.rgn [] (by simp only [go_sem, seval]; rfl) ?_ ?_)
 ·first | trivial | simp
 refine .seq (.rgn [a5_ (t4_ s hs)] (by simp only [go_sem, seval]; rfl) ?_ ?_)
 ·first | trivial | simp
 refine .seq (.rgn [] (by simp only [go_sem, seval]; rfl) ?_ ?_)
 ·first | trivial | simp
 refine .ret ⟨.inr rfl, ?_⟩
 exact Out.plain (by simp only [Tryz.results210]; rfl) (by simp only [a1_, a9_, go_sem, seval] <;> (split <;> rfl)) (by simp only [a8_, go_sem, seval] <;> (rw [← h]; simp [Bool.and_assoc])) (by simp only [go_sem, seval])
theorem rg_ : ACall En 209 [] [] [.s marks] [] := by
 refine aj_ (fn := Tryz.f209) [] Tryz.func209 rfl rfl (by simp) fun C => ?_
 rw [a0_]
 simp only [Tryz.ntmps209, T7_, List.length_nil, Nat.reduceAdd, Nat.reduceSub, List.replicate_succ, List.replicate_zero, List.cons_append, List.nil_append, bq_]
 refine .seq (.rgn [] (by simp only [go_sem, seval]; rfl) ?_ ?_)
 ·first | trivial | simp
 refine .seq (.rgn [] (by simp only [go_sem, seval]; rfl) ?_ ?_)
 ·first | trivial | simp
 refine .ret ⟨.inr rfl, ?_⟩
 exact Out.plain (by simp only [Tryz.results209]; rfl) (by simp only [a1_, a9_, go_sem, seval] <;> (split <;> rfl)) (by simp only [a8_, go_sem, seval] <;> (rfl)) (by simp only [go_sem, seval])
theorem rl_ (s : Str) (c : UInt8) (hs : s.length ≤ 281474976710656) : ACall En 208 [.s s, .i .u8 c.toNat] [] [.i .i64 (Lib.indexByte s c)] [] := by
 refine aj_ (fn := Tryz.f208) [] Tryz.func208 rfl rfl (by simp) fun C => ?_
 rw [a0_]
 simp only [Tryz.ntmps208, T7_, List.length_nil, Nat.reduceAdd, Nat.reduceSub, List.replicate_succ, List.replicate_zero, List.cons_append, List.nil_append, bq_]
 refine .seq (.rgn [] (by simp only [go_sem, seval]; rfl) ?_ ?_)
 ·(first | trivial | (simp; done) | (simp at h9; simp; omega))
 refine .seq (.seq (.rgn [] (by simp only [go_sem, seval]; rfl) ?_ ?_))
 ·(first | trivial | (simp; done) | (simp at h9; simp; omega))
 refine .block (.loopK (fun k : Nat => ⟨[.s s, .i .u8 c.toNat, .no, .no, .no, .i .i64 k, .no, .no, .no, .no, .no, .no, .no, .no, .no, .no, .no, .no], bg_ [], us []⟩) (fun k : Nat => k ≤ s.length ∧ c ∉ s.take k) (fun k : Nat => s.length - k) (0) ?_ ?_ (fun k hI => ?_))
 ·simp
 ·exact Can.weak (Weak.lit (by simp only [go_sem, seval, av_, leV, at_, au_, V.inn, us, T9_, Ta_] <;> ((try simp))) (by simp only [go_sem, seval, av_, leV, at_, au_, V.inn, us, T9_, Ta_]) (by simp only [go_sem, seval, av_, leV, at_, au_, V.inn, us, T9_, Ta_]))
 refine .seq (.seq (.rgn [] (by simp only [go_sem, seval]; rfl) ?_ ?_))
 ·(first | trivial | (simp; done) | (simp at h9; simp; omega))
 refine .condB (by simp only [go_sem, seval]; rfl) (by simp only [go_sem, seval]) (fun h9 => ?_) (fun h9 => ?_)
 ·refine .skip (.seq (.block (.seq (.rgn [] (by simp only [go_sem, seval]; rfl) ?_ ?_))))
  ·(first | trivial | (simp; done) | (simp at h9; simp; omega))
  refine .condB (by simp only [go_sem, seval]; rfl) (by simp only [go_sem, seval]) (fun h16 => ?_) (fun h16 => ?_)
  ·refine .seq (.rgn [] (by simp only [go_sem, seval]; rfl) ?_ ?_)
   ·(first | trivial | (simp; done) | (simp at h9; simp; omega))
   refine .ret ⟨.inr rfl, ?_⟩
   exact Out.plain (by simp only [Tryz.results208]; rfl) (by simp only [a1_, a9_, go_sem, seval] <;> (split <;> rfl)) (by simp only [a8_, go_sem, seval] <;> (simp only [T3_] at h9; rw [zs_ c s k (by omega) hI.2 (agv_ h16)])) (by simp only [go_sem, seval])
  ·refine .skip (.rgn [] (by simp only [go_sem, seval]; rfl) ?_ ?_)
   ·(first | trivial | (simp; done) | (simp at h9; simp; omega))
   refine Exists.intro (k + 1) ⟨?_, ?_, ?_⟩
   ·simp only [T3_] at h9; exact ⟨by omega, ac9_ (by omega) hI.2 (agn_ h16)⟩
   ·simp at h9; omega
   exact Can.weak (Weak.lit (by simp only [go_sem, seval, av_, leV, at_, au_, V.inn, us, T9_, Ta_] <;> (rw [bh_ (by simp at h9; omega) (by simp at h9; omega)]; simp)) (by simp only [go_sem, seval, av_, leV, at_, au_, V.inn, us, T9_, Ta_]) (by simp only [go_sem, seval, av_, leV, at_, au_, V.inn, us, T9_, Ta_]))
 ·refine .exit (.seq (.rgn [] (by simp only [go_sem, seval]; rfl) ?_ ?_))
  ·(first | trivial | (simp; done) | (simp at h9; simp; omega))
  refine .ret ⟨.inr rfl, ?_⟩
  exact Out.plain (by simp only [Tryz.results208]; rfl) (by simp only [a1_, a9_, go_sem, seval] <;> (split <;> rfl)) (by simp only [a8_, go_sem, seval] <;> (simp only [T4_] at h9; have h2 := hI.2; rw [T1_ (by omega)] at h2; rw [ag1_ c s h2])) (by simp only [go_sem, seval])
end
section
set_option maxRecDepth 100000
set_option maxHeartbeats 4000000
def c4_ (c : UInt8) : Int := if cn_ c then 1 else if ch_ c then 2 else if marks.contains c then 3 else if c = 32 then 4 else 0
theorem qg_ (c : UInt8) : ACall En 197 [.i .u8 c.toNat] [] [.i .i64 (c4_ c)] [] := by
 have hf : decide (Lib.indexByte marks c ≥ 0) = marks.contains c := in_ marks c
 have h1 : (decide ((c.toNat : Int) ≥ 97) && decide ((c.toNat : Int) ≤ 122)) = cn_ c := rfl
 have h2 : (decide ((c.toNat : Int) ≥ 48) && decide ((c.toNat : Int) ≤ 57)) = ch_ c := rfl
 refine aj_ (fn := Tryz.f197) [] Tryz.func197 rfl rfl (by simp) fun C => ?_
 rw [a0_]
 simp only [Tryz.ntmps197, T7_, List.length_nil, Nat.reduceAdd, Nat.reduceSub, List.replicate_succ, List.replicate_zero, List.cons_append, List.nil_append, bq_]
 refine .seq (.rgn [] (by simp only [go_sem, seval]; rfl) ?_ ?_)
 ·(first | trivial | (simp; done) | (intro h; rw [h]; rfl))
 refine .seq (.block (.seq (.rgn [] (by simp only [go_sem, seval]; rfl) ?_ ?_)))
 ·(first | trivial | (simp; done) | (intro h; rw [h]; rfl))
 refine .condB (by simp only [go_sem, seval]; rfl) (by simp only [go_sem, seval]) (fun h3 => ?_) (fun h3 => ?_)
 ·refine .seq (.rgn [] (by simp only [go_sem, seval]; rfl) ?_ ?_)
  ·(first | trivial | (simp; done) | (intro h; rw [h]; rfl))
  refine .ret ⟨.inr rfl, ?_⟩
  exact Out.plain (by simp only [Tryz.results197]; rfl) (by simp only [a1_, a9_, go_sem, seval] <;> (split <;> rfl)) (by simp only [a8_, go_sem, seval] <;> (rw [h1] at h3; unfold c4_; rw [if_pos h3])) (by simp only [go_sem, seval])
 ·refine .seq (.rgn [] (by simp only [go_sem, seval]; rfl) ?_ ?_)
  ·(first | trivial | (simp; done) | (intro h; rw [h]; rfl))
  refine .condB (by simp only [go_sem, seval]; rfl) (by simp only [go_sem, seval]) (fun h10 => ?_) (fun h10 => ?_)
  ·refine .seq (.rgn [] (by simp only [go_sem, seval]; rfl) ?_ ?_)
   ·(first | trivial | (simp; done) | (intro h; rw [h]; rfl))
   refine .ret ⟨.inr rfl, ?_⟩
   exact Out.plain (by simp only [Tryz.results197]; rfl) (by simp only [a1_, a9_, go_sem, seval] <;> (split <;> rfl)) (by simp only [a8_, go_sem, seval] <;> (rw [h1] at h3; rw [h2] at h10; unfold c4_; rw [if_neg (by simp [h3]), if_pos h10])) (by simp only [go_sem, seval])
  ·refine .seq (.rgn [a5_ rg_, a5_ (rl_ marks c (by decide))] (by simp only [go_sem, seval]; rfl) ?_ ?_)
   ·(first | trivial | (simp; done) | (intro h; rw [h]; rfl))
   refine .condB (by simp only [go_sem, seval]; rfl) (by simp only [go_sem, seval]) (fun h17 => ?_) (fun h17 => ?_)
   ·refine .seq (.rgn [] (by simp only [go_sem, seval]; rfl) ?_ ?_)
    ·(first | trivial | (simp; done) | (intro h; rw [h]; rfl))
    refine .ret ⟨.inr rfl, ?_⟩
    exact Out.plain (by simp only [Tryz.results197]; rfl) (by simp only [a1_, a9_, go_sem, seval] <;> (split <;> rfl)) (by simp only [a8_, go_sem, seval] <;> (rw [h1] at h3; rw [h2] at h10; rw [hf] at h17; unfold c4_; rw [if_neg (by simp [h3]), if_neg (by simp [h10]), if_pos h17])) (by simp only [go_sem, seval])
   ·refine .seq (.rgn [] (by simp only [go_sem, seval]; rfl) ?_ ?_)
    ·(first | trivial | (simp; done) | (intro h; rw [h]; rfl))
    refine .condB (by simp only [go_sem, seval]; rfl) (by simp only [go_sem, seval]) (fun h22 => ?_) (fun h22 => ?_)
    ·refine .seq (.rgn [] (by simp only [go_sem, seval]; rfl) ?_ ?_)
     ·(first | trivial | (simp; done) | (intro h; rw [h]; rfl))
     refine .ret ⟨.inr rfl, ?_⟩
     exact Out.plain (by simp only [Tryz.results197]; rfl) (by simp only [a1_, a9_, go_sem, seval] <;> (split <;> rfl)) (by simp only [a8_, go_sem, seval] <;> (rw [h1] at h3; rw [h2] at h10; rw [hf] at h17; unfold c4_; rw [if_neg (by simp [h3]), if_neg (by simp [h10]), if_neg (by rw [h17]; decide), if_pos (by apply UInt8.toNat_inj.1; show _ = 32; simp at h22; omega)])) (by simp only [go_sem, seval])
    ·refine .skip (.seq (.rgn [] (by simp only [go_sem, seval]; rfl) ?_ ?_))
     ·(first | trivial | (simp; done) | (intro h; rw [h]; rfl))
     refine .ret ⟨.inr rfl, ?_⟩
     exact Out.plain (by simp only [Tryz.results197]; rfl) (by simp only [a1_, a9_, go_sem, seval] <;> (split <;> rfl)) (by simp only [a8_, go_sem, seval] <;> (rw [h1] at h3; rw [h2] at h10; rw [hf] at h17; unfold c4_; rw [if_neg (by simp [h3]), if_neg (by simp [h10]), if_neg (by rw [h17]; decide), if_neg (by rintro rfl; simp at h22)])) (by simp only [go_sem, seval])
def exC (c : UInt8) (l : Str) : Nat := if c4_ c < 3 then (l.takeWhile fun x => c4_ x == c4_ c).length else 0
def c2_ (l : Str) : Nat := match l with | [] => 1 | c :: r => 1 + exC c r
theorem kv_ {s : Str} {k : Nat} (h : k < s.length) : s.drop k = s.getD k 0 :: s.drop (k + 1) := by
 rw [List.drop_eq_getElem_cons h, T8_, T6_ h]; rfl
theorem akv_ (c : UInt8) (l : Str) : exC c l ≤ l.length := by
 unfold exC; split
 ·exact (List.takeWhile_prefix _).length_le
 ·omega
theorem ec_ {s : Str} {k : Nat} (h : k < s.length) : 1 ≤ c2_ (s.drop k) ∧ k + c2_ (s.drop k) ≤ s.length := by
 rw [kv_ h, c2_]
 have := akv_ (s.getD k 0) (s.drop (k + 1))
 rw [List.length_drop] at this
 omega
theorem akw_ {c : UInt8} {s : Str} {j : Nat} (h : j < s.length) (h1 : c4_ c < 3) (h2 : c4_ (s.getD j 0) = c4_ c) : exC c (s.drop j) = 1 + exC c (s.drop (j + 1)) := by
 unfold exC
 rw [if_pos h1, if_pos h1, kv_ h, List.takeWhile_cons, if_pos (by rw [h2]; exact beq_self_eq_true _)]
 simp; omega
theorem aef_ {c : UInt8} {s : Str} {j : Nat} (h : ¬ (j < s.length ∧ c4_ c < 3 ∧ c4_ (s.getD j 0) = c4_ c)) : exC c (s.drop j) = 0 := by
 unfold exC
 split
 ·rename_i h1
  rcases Nat.lt_or_ge j s.length with q | q
  ·rw [kv_ q, List.takeWhile_cons, if_neg (by simp; exact fun e => h ⟨q, h1, e⟩)]; rfl
  ·rw [List.drop_of_length_le q]; rfl
 ·rfl
theorem ahs_ (s : Str) (k : Nat) (hk : k < s.length) (hs : s.length ≤ 1000000) : ACall En 171 [.s s, .i .i64 k] [] [.i .i64 ((k + c2_ (s.drop k) : Nat) : Int)] [] := by
 have hE : c2_ (s.drop k) = 1 + exC (s.getD k 0) (s.drop (k + 1)) := by rw [kv_ hk]; rfl
 refine aj_ (fn := Tryz.f171) [] Tryz.func171 rfl rfl (by simp) fun C => ?_
 rw [a0_]
 simp only [Tryz.ntmps171, T7_, List.length_nil, Nat.reduceAdd, Nat.reduceSub, List.replicate_succ, List.replicate_zero, List.cons_append, List.nil_append, bq_]
 refine .seq (.rgn [] (by simp only [go_sem, seval]; rfl) ?_ ?_)
 ·first | trivial | simp
 refine .seq (.rgn [a5_ (qg_ (s.getD k 0))] (by simp only [go_sem, seval]; rfl) ?_ ?_)
 ·exact ⟨by omega, by omega⟩
 refine .seq (.rgn [] (by simp only [go_sem, seval]; rfl) ?_ ?_)
 ·first | trivial | simp
 refine .seq (.block (.loopK (fun j : Nat => ⟨[.s s, .no, .no, .no, .no, .i .i64 (c4_ (s.getD k 0)), .i .i64 j, .no, .no, .no, .no, .no, .no, .no, .no, .no, .no, .no, .no, .no, .no, .no, .no, .no, .no, .no, .no, .no, .no, .no, .no, .no], bg_ [], us []⟩) (fun j : Nat => k + 1 ≤ j ∧ j ≤ s.length ∧ k + 1 + exC (s.getD k 0) (s.drop (k + 1)) = j + exC (s.getD k 0) (s.drop j)) (fun j : Nat => s.length - j) (k + 1) ?_ ?_ (fun j hI => ?_)))
 ·exact ⟨Nat.le_refl _, hk, rfl⟩
 ·exact Can.weak (Weak.lit (by simp only [go_sem, seval, av_, leV, at_, au_, V.inn, us, T9_, Ta_] <;> (rw [bh_ (by omega) (by omega)]; simp)) (by simp only [go_sem, seval, av_, leV, at_, au_, V.inn, us, T9_, Ta_]) (by simp only [go_sem, seval, av_, leV, at_, au_, V.inn, us, T9_, Ta_]))
 refine .seq (.seq (.rgn [cf_ (j < s.length) (fun _ => qg_ (s.getD j 0))] (by simp only [go_sem, seval]; rfl) ?_ ?_))
 ·exact ⟨fun h => ⟨h, by omega, by rw [T5_] at h; exact of_decide_eq_true h.1⟩, fun h => ⟨h, by rw [T5_] at h; have h0 := of_decide_eq_true h.1; omega⟩⟩
 refine .condB (by simp only [go_sem, seval]; rfl) (by simp only [go_sem, seval]) (fun h28 => ?_) (fun h28 => ?_)
 ·refine .skip (.block (.rgn [] (by simp only [go_sem, seval]; rfl) ?_ ?_))
  ·first | trivial | simp
  refine Exists.intro (j + 1) ⟨?_, ?_, ?_⟩
  ·rw [T5_, T5_] at h28; have a := of_decide_eq_true h28.1.1; have b := of_decide_eq_true h28.1.2; have c := beq_iff_eq.1 h28.2; have e := akw_ (show j < s.length by omega) b c; exact ⟨by omega, by omega, by omega⟩
  ·rw [T5_, T5_] at h28; have a := of_decide_eq_true h28.1.1; omega
  exact Can.weak (Weak.lit (by simp only [go_sem, seval, av_, leV, at_, au_, V.inn, us, T9_, Ta_] <;> (rw [bh_ (by omega) (by omega)]; simp)) (by simp only [go_sem, seval, av_, leV, at_, au_, V.inn, us, T9_, Ta_]) (by simp only [go_sem, seval, av_, leV, at_, au_, V.inn, us, T9_, Ta_]))
 ·refine .exit (.seq (.rgn [] (by simp only [go_sem, seval]; rfl) ?_ ?_))
  ·first | trivial | simp
  refine .ret ⟨.inr rfl, ?_⟩
  exact Out.plain (by simp only [Tryz.results171]; rfl) (by simp only [a1_, a9_, go_sem, seval] <;> (split <;> rfl)) (by simp only [a8_, go_sem, seval] <;> ((have e := aef_ (c := s.getD k 0) (s := s) (j := j) (fun q => by rw [decide_eq_true (show (j : Int) < s.length by omega), decide_eq_true q.2.1, q.2.2] at h28; simp at h28)); rw [hE, show k + (1 + exC (s.getD k 0) (s.drop (k + 1))) = j by omega])) (by simp only [go_sem, seval])
theorem abm_ (s : Str) : (((s.length : Int) == 1) && decide (Lib.indexByte marks (s.getD 0 0) ≥ 0)) = er_ s := by
 unfold er_
 rw [show decide (Lib.indexByte marks (s.getD 0 0) ≥ 0) = marks.contains (s.getD 0 0) from in_ marks _]
 congr 1
 ·rw [Bool.eq_iff_iff]; simp; omega
 ·cases s <;> rfl
def ki_ (k : Int) (s : Str) : Bool := if k = 1 then eb_ s else if k = 2 then cs_ s else if k = 3 then er_ s else false
theorem ab0_ (k : Int) (s : Str) (hs : s.length ≤ 281474976710656) : ACall En 198 [.i .i64 k, .s s] [] [.b (ki_ k s)] [] := by
 refine aj_ (fn := Tryz.f198) [] Tryz.func198 rfl rfl (by simp) fun C => ?_
 rw [a0_]
 simp only [Tryz.ntmps198, T7_, List.length_nil, Nat.reduceAdd, Nat.reduceSub, List.replicate_succ, List.replicate_zero, List.cons_append, List.nil_append, bq_]
 refine .seq (.rgn [] (by simp only [go_sem, seval]; rfl) ?_ ?_)
 ·first | trivial | simp
 refine .seq (.seq (.rgn [] (by simp only [go_sem, seval]; rfl) ?_ ?_))
 ·first | trivial | simp
 refine .block (.seq (.rgn [] (by simp only [go_sem, seval]; rfl) ?_ ?_))
 ·first | trivial | simp
 refine .condB (by simp only [go_sem, seval]; rfl) (by simp only [go_sem, seval]) (fun h6 => ?_) (fun h6 => ?_)
 ·refine .seq (.rgn [a5_ (ty_ s (by omega))] (by simp only [go_sem, seval]; rfl) ?_ ?_)
  ·first | trivial | simp
  refine .ret ⟨.inr rfl, ?_⟩
  exact Out.plain (by simp only [Tryz.results198]; rfl) (by simp only [a1_, a9_, go_sem, seval] <;> (split <;> rfl)) (by simp only [a8_, go_sem, seval] <;> (simp at h6; simp [ki_, h6])) (by simp only [go_sem, seval])
 ·refine .seq (.rgn [] (by simp only [go_sem, seval]; rfl) ?_ ?_)
  ·first | trivial | simp
  refine .condB (by simp only [go_sem, seval]; rfl) (by simp only [go_sem, seval]) (fun h10 => ?_) (fun h10 => ?_)
  ·refine .seq (.rgn [a5_ (x7_ s hs)] (by simp only [go_sem, seval]; rfl) ?_ ?_)
   ·first | trivial | simp
   refine .ret ⟨.inr rfl, ?_⟩
   exact Out.plain (by simp only [Tryz.results198]; rfl) (by simp only [a1_, a9_, go_sem, seval] <;> (split <;> rfl)) (by simp only [a8_, go_sem, seval] <;> (simp at h6 h10; simp [ki_, h10])) (by simp only [go_sem, seval])
  ·refine .seq (.rgn [] (by simp only [go_sem, seval]; rfl) ?_ ?_)
   ·first | trivial | simp
   refine .condB (by simp only [go_sem, seval]; rfl) (by simp only [go_sem, seval]) (fun h14 => ?_) (fun h14 => ?_)
   ·refine .seq (.rgnD [a5_ rg_, cf_ (0 < s.length) (fun _ => rl_ marks (s.getD 0 0) (by decide))] enM (by simp only [go_sem, seval]; rfl) (by rfl) ?_ ?_)
    ·exact ⟨fun h => ⟨h, by have := beq_iff_eq.1 h; omega⟩, fun h => ⟨h, by have := beq_iff_eq.1 h; omega⟩⟩
    refine .ret ⟨.inr rfl, ?_⟩
    exact Out.plain (by simp only [Tryz.results198]; rfl) (by simp only [a1_, a9_, go_sem, seval] <;> (split <;> rfl)) (by simp only [a8_, go_sem, seval] <;> (simp at h6 h10 h14; simp [ki_, h14]; rw [← abm_]; simp)) (by simp only [go_sem, seval])
   ·refine .skip (.seq (.rgn [] (by simp only [go_sem, seval]; rfl) ?_ ?_))
    ·first | trivial | simp
    refine .ret ⟨.inr rfl, ?_⟩
    exact Out.plain (by simp only [Tryz.results198]; rfl) (by simp only [a1_, a9_, go_sem, seval] <;> (split <;> rfl)) (by simp only [a8_, go_sem, seval] <;> (simp at h6 h10 h14; simp [ki_, h6, h10, h14])) (by simp only [go_sem, seval])
theorem wz_ (s : Str) (hs : s.length ≤ 281474976710656) : ACall En 172 [.s s] [] [.i .i64 (c0_ s)] [] := by
 refine aj_ (fn := Tryz.f172) [] Tryz.func172 rfl rfl (by simp) fun C => ?_
 rw [a0_]
 simp only [Tryz.ntmps172, T7_, List.length_nil, Nat.reduceAdd, Nat.reduceSub, List.replicate_succ, List.replicate_zero, List.cons_append, List.nil_append, bq_]
 refine .seq (.rgn [] (by simp only [go_sem, seval]; rfl) ?_ ?_)
 ·first | trivial | simp
 refine .seq (.seq (.rgn [] (by simp only [go_sem, seval]; rfl) ?_ ?_))
 ·first | trivial | simp
 refine .block (.loopK (fun k : Nat => ⟨[.s s, .no, .no, .i .i64 k, .no, .no, .no, .no, .no, .no, .no, .no], bg_ [], us []⟩) (fun k : Nat => 1 ≤ k ∧ k ≤ 4 ∧ (2 ≤ k → eb_ s = false) ∧ (3 ≤ k → cs_ s = false) ∧ (4 ≤ k → er_ s = false)) (fun k : Nat => 4 - k) (1) ?_ ?_ (fun k hI => ?_))
 ·exact ⟨by decide, by decide, fun h => by omega, fun h => by omega, fun h => by omega⟩
 ·exact Can.weak (Weak.lit (by simp only [go_sem, seval, av_, leV, at_, au_, V.inn, us, T9_, Ta_] <;> (rfl)) (by simp only [go_sem, seval, av_, leV, at_, au_, V.inn, us, T9_, Ta_]) (by simp only [go_sem, seval, av_, leV, at_, au_, V.inn, us, T9_, Ta_]))
 refine .seq (.seq (.rgn [] (by simp only [go_sem, seval]; rfl) ?_ ?_))
 ·first | trivial | simp
 refine .condB (by simp only [go_sem, seval]; rfl) (by simp only [go_sem, seval]) (fun h5 => ?_) (fun h5 => ?_)
 ·refine .skip (.seq (.block (.seq (.rgn [a5_ (ab0_ k s hs)] (by simp only [go_sem, seval]; rfl) ?_ ?_))))
  ·first | trivial | simp
  refine .condB (by simp only [go_sem, seval]; rfl) (by simp only [go_sem, seval]) (fun h10 => ?_) (fun h10 => ?_)
  ·refine .seq (.rgn [] (by simp only [go_sem, seval]; rfl) ?_ ?_)
   ·first | trivial | simp
   refine .ret ⟨.inr rfl, ?_⟩
   exact Out.plain (by simp only [Tryz.results172]; rfl) (by simp only [a1_, a9_, go_sem, seval] <;> (split <;> rfl)) (by simp only [a8_, go_sem, seval] <;> (simp only [T3_] at h5; unfold c0_; rcases (show k = 1 ∨ k = 2 ∨ k = 3 by omega) with e | e | e <;> subst e <;> simp [ki_] at h10; (simp [h10]); (simp [h10, hI.2.2.1 (by omega)]); (simp [h10, hI.2.2.1 (by omega), hI.2.2.2.1 (by omega)]))) (by simp only [go_sem, seval])
  ·refine .skip (.rgn [] (by simp only [go_sem, seval]; rfl) ?_ ?_)
   ·first | trivial | simp
   refine Exists.intro (k + 1) ⟨?_, ?_, ?_⟩
   ·simp only [T3_] at h5; rcases (show k = 1 ∨ k = 2 ∨ k = 3 by omega) with e | e | e <;> subst e <;> simp [ki_] at h10; exact ⟨by omega, by omega, fun _ => h10, fun h => by omega, fun h => by omega⟩; exact ⟨by omega, by omega, fun _ => hI.2.2.1 (by omega), fun _ => h10, fun h => by omega⟩; exact ⟨by omega, by omega, fun _ => hI.2.2.1 (by omega), fun _ => hI.2.2.2.1 (by omega), fun _ => h10⟩
   ·simp at h5; omega
   exact Can.weak (Weak.lit (by simp only [go_sem, seval, av_, leV, at_, au_, V.inn, us, T9_, Ta_] <;> (rw [bh_ (by omega) (by omega)]; simp)) (by simp only [go_sem, seval, av_, leV, at_, au_, V.inn, us, T9_, Ta_]) (by simp only [go_sem, seval, av_, leV, at_, au_, V.inn, us, T9_, Ta_]))
 ·refine .exit (.seq (.rgn [] (by simp only [go_sem, seval]; rfl) ?_ ?_))
  ·first | trivial | simp
  refine .ret ⟨.inr rfl, ?_⟩
  exact Out.plain (by simp only [Tryz.results172]; rfl) (by simp only [a1_, a9_, go_sem, seval] <;> (split <;> rfl)) (by simp only [a8_, go_sem, seval] <;> (simp only [T4_] at h5; unfold c0_; simp [hI.2.2.1 (by omega), hI.2.2.2.1 (by omega), hI.2.2.2.2 (by omega)])) (by simp only [go_sem, seval])
theorem t1_ {c : UInt8} : (c4_ c == 1) = cn_ c := by
 unfold c4_
 cases h : cn_ c with
 | true => rfl
 | false => simp only [Bool.false_eq_true, if_false]; split <;> (try split) <;> (try split) <;> rfl
theorem u0_ {c : UInt8} : (c4_ c == 2) = ch_ c := by
 unfold c4_
 cases h : cn_ c with
 | true => rw [gh_ h]; rfl
 | false =>
  simp only [Bool.false_eq_true, if_false]
  cases ch_ c with
  | true => rfl
  | false => simp only [Bool.false_eq_true, if_false]; split <;> (try split) <;> rfl
theorem act_ {c : UInt8} {l : Str} (h : c4_ c ≠ 0) (h4 : c ≠ 32) : c2_ (c :: l) = dt_ (c :: l) := by
 show 1 + (if c4_ c < 3 then (l.takeWhile fun x => c4_ x == c4_ c).length else 0) = max 1 (max ((c :: l).takeWhile cn_).length ((c :: l).takeWhile ch_).length)
 cases hl : cn_ c with
 | true =>
  have e : c4_ c = 1 := by unfold c4_; rw [if_pos hl]
  rw [e, if_pos (by decide), kg_ (gh_ hl), List.takeWhile_cons, if_pos hl]
  have : (fun x => c4_ x == 1) = cn_ := funext fun x => t1_
  rw [this]; simp; omega
 | false =>
  rw [kg_ (p := cn_) hl]
  cases hd : ch_ c with
  | true =>
   have e : c4_ c = 2 := by unfold c4_; rw [if_neg (by simp [hl]), if_pos hd]
   rw [e, if_pos (by decide), List.takeWhile_cons, if_pos hd]
   have : (fun x => c4_ x == 2) = ch_ := funext fun x => u0_
   rw [this]; simp; omega
  | false =>
   rw [kg_ hd]
   have e : ¬ c4_ c < 3 := by
    unfold c4_ at h ⊢
    rw [if_neg (by simp [hl]), if_neg (by simp [hd])] at h ⊢
    split
    ·decide
    ·rename_i hm; rw [if_neg hm, if_neg h4] at h; exact absurd rfl h
   rw [if_neg e]; rfl
theorem z2_ {c : UInt8} {l : Str} (h : c4_ c = 0) : c0_ (c :: l) = 0 := by
 unfold c4_ at h
 have hl : cn_ c = false := by
  cases q : cn_ c with
  | true => rw [q] at h; simp at h
  | false => rfl
 have hd : ch_ c = false := by
  cases q : ch_ c with
  | true => rw [hl, q] at h; simp at h
  | false => rfl
 have hm : marks.contains c = false := by
  cases q : marks.contains c with
  | true => rw [hl, hd, q] at h; simp at h
  | false => rfl
 unfold c0_
 rw [if_neg, if_neg, if_neg]
 ·intro q; simp only [er_, T5_, List.headD_cons] at q; rw [hm] at q; exact absurd q.2 (by decide)
 ·intro q
  obtain ⟨n, _, e⟩ := dj_.1 q
  have := (jl_ c).2 (da_ n c (by rw [← e]; simp))
  rw [hd] at this; cases this
 ·intro q; simp [eb_, hl] at q
theorem ov_ {l : Str} {k : Nat} (h : k < l.length) (col : Int) : eu_ (l.drop k).length (l.drop k) col =
  if l.getD k 0 = 32 then eu_ (l.drop (k + c2_ (l.drop k))).length (l.drop (k + c2_ (l.drop k))) (col + c2_ (l.drop k))
  else if c0_ ((l.drop k).take (c2_ (l.drop k))) = 0 then none
  else (eu_ (l.drop (k + c2_ (l.drop k))).length (l.drop (k + c2_ (l.drop k))) (col + c2_ (l.drop k))).map (⟨c0_ ((l.drop k).take (c2_ (l.drop k))), (l.drop k).take (c2_ (l.drop k)), col⟩ :: ·) := by
 rw [n4_ h]
 have hd := kv_ h
 by_cases h32 : l.getD k 0 = 32
 ·have e : c2_ (l.drop k) = 1 := by
   rw [hd, c2_, h32]; rfl
  rw [if_pos h32, if_pos h32, e]; rfl
 ·rw [if_neg h32, if_neg h32]
  by_cases h0 : c4_ (l.getD k 0) = 0
  ·have p : ∀ m, 1 ≤ m → c0_ ((l.drop k).take m) = 0 := fun m hm => by
    rw [hd]
    obtain ⟨m', rfl⟩ : ∃ m', m = m' + 1 := ⟨m - 1, by omega⟩
    rw [List.take_succ_cons]; exact z2_ h0
   rw [if_pos (p _ (wl_b h).1), if_pos (p _ (ec_ h).1)]
  ·have e : c2_ (l.drop k) = dt_ (l.drop k) := by rw [hd]; exact act_ h0 h32
   rw [e]
theorem xo_ (s : Str) (hs : s.length ≤ 281474976710656) : ACall En 142 [.s s] [] [.sl false (tkR ((bt_ s).getD [])), .b (bt_ s).isSome] [] := by
 refine aj_ (fn := Tryz.f142) [] Tryz.func142 rfl rfl (by simp) fun C => ?_
 rw [a0_]
 simp only [Tryz.ntmps142, T7_, List.length_nil, Nat.reduceAdd, Nat.reduceSub, List.replicate_succ, List.replicate_zero, List.cons_append, List.nil_append, bq_]
 refine .seq (.rgn [] (by simp only [go_sem, seval, ao_, ax_]; rfl) ?_ ?_)
 ·(first | trivial | (simp; done) | (simp only [T3_] at h16; have he := ec_ (show q.1 < s.length by omega); first | exact ⟨by omega, hI.2.1⟩ | exact ⟨by omega, by omega⟩ | (refine ⟨by omega, by omega, by omega, by omega, by simp⟩) | (refine ⟨⟨⟨by omega, by omega, by omega, by omega, by simp⟩, rfl⟩, ?_⟩; simp; omega)))
 refine .seq (.rgn [] (by simp only [go_sem, seval, ao_, ax_]; rfl) ?_ ?_)
 ·(first | trivial | (simp; done) | (simp only [T3_] at h16; have he := ec_ (show q.1 < s.length by omega); first | exact ⟨by omega, hI.2.1⟩ | exact ⟨by omega, by omega⟩ | (refine ⟨by omega, by omega, by omega, by omega, by simp⟩) | (refine ⟨⟨⟨by omega, by omega, by omega, by omega, by simp⟩, rfl⟩, ?_⟩; simp; omega)))
 refine .seq (.seq (.rgn [] (by simp only [go_sem, seval, ao_, ax_]; rfl) ?_ ?_))
 ·(first | trivial | (simp; done) | (simp only [T3_] at h16; have he := ec_ (show q.1 < s.length by omega); first | exact ⟨by omega, hI.2.1⟩ | exact ⟨by omega, by omega⟩ | (refine ⟨by omega, by omega, by omega, by omega, by simp⟩) | (refine ⟨⟨⟨by omega, by omega, by omega, by omega, by simp⟩, rfl⟩, ?_⟩; simp; omega)))
 refine .condB (by simp only [go_sem, seval, ao_, ax_]; rfl) (by simp only [go_sem, seval, ao_, ax_]) (fun h11 => ?_) (fun h11 => ?_)
 ·refine .seq (.rgn [] (by simp only [go_sem, seval, ao_, ax_]; rfl) ?_ ?_)
  ·(first | trivial | (simp; done) | (simp only [T3_] at h16; have he := ec_ (show q.1 < s.length by omega); first | exact ⟨by omega, hI.2.1⟩ | exact ⟨by omega, by omega⟩ | (refine ⟨by omega, by omega, by omega, by omega, by simp⟩) | (refine ⟨⟨⟨by omega, by omega, by omega, by omega, by simp⟩, rfl⟩, ?_⟩; simp; omega)))
  refine .ret ⟨.inr rfl, ?_⟩
  exact Out.plainL (by simp only [Tryz.results142]; rfl) (by simp only [a1_, a9_, go_sem, seval, ao_, ax_] <;> (split <;> rfl)) (by simp only [a8_, go_sem, seval, ao_, ax_] <;> (simp only [T3_] at h11; rw [km_ (by omega)]; simp [tkR, ler])) (by simp only [go_sem, seval, ao_, ax_])
 ·refine .skip (.seq (.rgn [] (by simp only [go_sem, seval, ao_, ax_]; rfl) ?_ ?_))
  ·(first | trivial | (simp; done) | (simp only [T3_] at h16; have he := ec_ (show q.1 < s.length by omega); first | exact ⟨by omega, hI.2.1⟩ | exact ⟨by omega, by omega⟩ | (refine ⟨by omega, by omega, by omega, by omega, by simp⟩) | (refine ⟨⟨⟨by omega, by omega, by omega, by omega, by simp⟩, rfl⟩, ?_⟩; simp; omega)))
  refine .seq (.block (.loopK (fun q : Nat × List Tk => ⟨[.s s, .no, .no, .no, .ow 60 3 0 q.2.length, .i .i64 q.1, .no, .no, .no, .no, .no, .no, .no, .no, .no, .no, .no, .no, .no, .no, .no, .no, .no, .no, .no, .no, .no, .no, .no, .no, .no, .no, .no, .no, .no, .no, .no, .no, .no, .no, .no, .no, .no, .no], bg_ [(60, ⟨116, 3, tkR q.2⟩)], us [60]⟩) (fun q : Nat × List Tk => q.1 ≤ s.length ∧ s.length ≤ 120 ∧ q.2.length ≤ q.1 ∧ eu_ s.length s 0 = (eu_ (s.drop q.1).length (s.drop q.1) q.1).map (q.2 ++ ·)) (fun q : Nat × List Tk => s.length - q.1) ((0, [])) ?_ ?_ (fun q hI => ?_)))
  ·simp at h11; simp; omega
  ·refine Can.trans (Can.ownSlot 4 60 116 3 (by simp only [go_sem, seval, ao_, ax_] <;> rfl) (by simp only [go_sem, seval, ao_, ax_]) (by simp only [go_sem, seval, ao_, ax_] <;> rfl)) ?_
   exact Can.weak (Weak.lit (by simp only [go_sem, seval, ao_, ax_, av_, leV, at_, au_, V.inn, us, T9_, Ta_] <;> ((try simp))) (by simp only [go_sem, seval, ao_, ax_, av_, leV, at_, au_, V.inn, us, T9_, Ta_]) (by simp only [go_sem, seval, ao_, ax_, av_, leV, at_, au_, V.inn, us, T9_, Ta_] <;> (simp [tkR])))
  refine .seq (.seq (.rgn [] (by simp only [go_sem, seval, ao_, ax_]; rfl) ?_ ?_))
  ·(first | trivial | (simp; done) | (simp only [T3_] at h16; have he := ec_ (show q.1 < s.length by omega); first | exact ⟨by omega, hI.2.1⟩ | exact ⟨by omega, by omega⟩ | (refine ⟨by omega, by omega, by omega, by omega, by simp⟩) | (refine ⟨⟨⟨by omega, by omega, by omega, by omega, by simp⟩, rfl⟩, ?_⟩; simp; omega)))
  refine .condB (by simp only [go_sem, seval, ao_, ax_]; rfl) (by simp only [go_sem, seval, ao_, ax_]) (fun h16 => ?_) (fun h16 => ?_)
  ·refine .skip (.block (.seq (.rgn [cf_ (q.1 < s.length ∧ s.length ≤ 120) (fun h => ahs_ s q.1 h.1 (by omega))] (by simp only [go_sem, seval, ao_, ax_]; rfl) ?_ ?_)))
   ·(first | trivial | (simp; done) | (simp only [T3_] at h16; have he := ec_ (show q.1 < s.length by omega); first | exact ⟨by omega, hI.2.1⟩ | exact ⟨by omega, by omega⟩ | (refine ⟨by omega, by omega, by omega, by omega, by simp⟩) | (refine ⟨⟨⟨by omega, by omega, by omega, by omega, by simp⟩, rfl⟩, ?_⟩; simp; omega)))
   refine .seqJ (fun p : List Tk => ⟨[.s s, .no, .no, .no, .ow 60 3 0 p.length, .no, .i .i64 ((q.1 + c2_ (s.drop q.1) : Nat) : Int), .no, .no, .no, .no, .no, .no, .no, .no, .no, .no, .no, .no, .no, .no, .no, .no, .no, .no, .no, .no, .no, .no, .no, .no, .no, .no, .no, .no, .no, .no, .no, .no, .no, .no, .no, .no, .no], bg_ [(60, ⟨116, 3, tkR p⟩)], us [60]⟩) (fun p : List Tk => p.length ≤ q.1 + 1 ∧ eu_ s.length s 0 = (eu_ (s.drop (q.1 + c2_ (s.drop q.1))).length (s.drop (q.1 + c2_ (s.drop q.1))) ((q.1 + c2_ (s.drop q.1) : Nat) : Int)).map (p ++ ·)) ?_ (fun p hJ => ?_)
   ·refine .seq (.rgn [] (by simp only [go_sem, seval, ao_, ax_]; rfl) ?_ ?_)
    ·(first | trivial | (simp; done) | (simp only [T3_] at h16; have he := ec_ (show q.1 < s.length by omega); first | exact ⟨by omega, hI.2.1⟩ | exact ⟨by omega, by omega⟩ | (refine ⟨by omega, by omega, by omega, by omega, by simp⟩) | (refine ⟨⟨⟨by omega, by omega, by omega, by omega, by simp⟩, rfl⟩, ?_⟩; simp; omega)))
    refine .condB (by simp only [go_sem, seval, ao_, ax_]; rfl) (by simp only [go_sem, seval, ao_, ax_]) (fun h23 => ?_) (fun h23 => ?_)
    ·refine .seq (.rgn [a5_ (wz_ ((s.drop q.1).take (c2_ (s.drop q.1))) (by simp; omega))] (by simp only [go_sem, seval, ao_, ax_, on_]; rfl) ?_ ?_)
     ·(first | trivial | (simp; done) | (simp only [T3_] at h16; have he := ec_ (show q.1 < s.length by omega); first | exact ⟨by omega, hI.2.1⟩ | exact ⟨by omega, by omega⟩ | (refine ⟨by omega, by omega, by omega, by omega, by simp⟩) | (refine ⟨⟨⟨by omega, by omega, by omega, by omega, by simp⟩, rfl⟩, ?_⟩; simp; omega)))
     refine .seq (.seq (.rgn [] (by simp only [go_sem, seval, ao_, ax_]; rfl) ?_ ?_))
     ·(first | trivial | (simp; done) | (simp only [T3_] at h16; have he := ec_ (show q.1 < s.length by omega); first | exact ⟨by omega, hI.2.1⟩ | exact ⟨by omega, by omega⟩ | (refine ⟨by omega, by omega, by omega, by omega, by simp⟩) | (refine ⟨⟨⟨by omega, by omega, by omega, by omega, by simp⟩, rfl⟩, ?_⟩; simp; omega)))
     refine .condB (by simp only [go_sem, seval, ao_, ax_]; rfl) (by simp only [go_sem, seval, ao_, ax_]) (fun h30 => ?_) (fun h30 => ?_)
     ·refine .seq (.rgn [] (by simp only [go_sem, seval, ao_, ax_]; rfl) ?_ ?_)
      ·(first | trivial | (simp; done) | (simp only [T3_] at h16; have he := ec_ (show q.1 < s.length by omega); first | exact ⟨by omega, hI.2.1⟩ | exact ⟨by omega, by omega⟩ | (refine ⟨by omega, by omega, by omega, by omega, by simp⟩) | (refine ⟨⟨⟨by omega, by omega, by omega, by omega, by simp⟩, rfl⟩, ?_⟩; simp; omega)))
      refine .ret ⟨.inr rfl, ?_⟩
      exact Out.plainL (by simp only [Tryz.results142]; rfl) (by simp only [a1_, a9_, go_sem, seval, ao_, ax_] <;> (split <;> rfl)) (by simp only [a8_, go_sem, seval, ao_, ax_] <;> (simp only [T3_] at h16; have e := ov_ (show q.1 < s.length by omega) q.1; rw [if_neg (fun h => by have := (hh_ (by omega)).1 h; rw [this] at h23; simp at h23), if_pos (by simpa using h30)] at e; rw [gs_ hI.2.1, hI.2.2.2, e]; simp [tkR, ler])) (by simp only [go_sem, seval, ao_, ax_])
     ·refine .skip (.rgn [] (by simp only [go_sem, seval, ao_, ax_, on_]; rfl) ?_ ?_)
      ·(first | trivial | (simp; done) | (simp only [T3_] at h16; have he := ec_ (show q.1 < s.length by omega); first | exact ⟨by omega, hI.2.1⟩ | exact ⟨by omega, by omega⟩ | (refine ⟨by omega, by omega, by omega, by omega, by simp⟩) | (refine ⟨⟨⟨by omega, by omega, by omega, by omega, by simp⟩, rfl⟩, ?_⟩; simp; omega)))
      refine Exists.intro (q.2 ++ [⟨c0_ ((s.drop q.1).take (c2_ (s.drop q.1))), (s.drop q.1).take (c2_ (s.drop q.1)), q.1⟩]) ⟨?_, ?_⟩
      ·simp only [T3_] at h16; obtain ⟨i1, i2, i3, i4⟩ := hI; have e := ov_ (show q.1 < s.length by omega) q.1; first | (rw [if_neg (fun h => by have := (hh_ (by omega)).1 h; rw [this] at h23; simp at h23), if_neg (by simpa using h30)] at e; exact ⟨by simp only [T2_, List.length_singleton]; omega, by rw [i4, e, Option.map_map]; simp [Function.comp_def]⟩) | (rw [if_pos ((hh_ (by omega)).2 (by simpa using h23))] at e; exact ⟨by omega, by rw [i4, e]; rfl⟩)
      refine Can.trans (Can.swap 51 60 (by decide) (by decide) (by decide) (by decide) (by simp only [go_sem, seval, ao_, ax_, V.cl]) (by simp only [go_sem, seval, ao_, ax_, V.cl]) (by simp only [go_sem, seval, ao_, ax_, bl_, sw, swM, rnB] <;> rfl) (by simp only [go_sem, seval, ao_, ax_, bl_, sw, swM, rnB] <;> rfl) (by simp only [go_sem, seval, ao_, ax_, bl_, sw, swM, rnB] <;> rfl)) ?_
      exact Can.weak (Weak.lit (by simp only [go_sem, seval, ao_, ax_, av_, leV, at_, au_, V.inn, us, T9_, Ta_] <;> ((try simp))) (by simp only [go_sem, seval, ao_, ax_, av_, leV, at_, au_, V.inn, us, T9_, Ta_]) (by simp only [go_sem, seval, ao_, ax_, av_, leV, at_, au_, V.inn, us, T9_, Ta_] <;> ((try simp [px_]))))
    ·refine .skip ?_
     refine Exists.intro (q.2) ⟨?_, ?_⟩
     ·simp only [T3_] at h16; obtain ⟨i1, i2, i3, i4⟩ := hI; have e := ov_ (show q.1 < s.length by omega) q.1; first | (rw [if_neg (fun h => by have := (hh_ (by omega)).1 h; rw [this] at h23; simp at h23), if_neg (by simpa using h30)] at e; exact ⟨by simp only [T2_, List.length_singleton]; omega, by rw [i4, e, Option.map_map]; simp [Function.comp_def]⟩) | (rw [if_pos ((hh_ (by omega)).2 (by simpa using h23))] at e; exact ⟨by omega, by rw [i4, e]; rfl⟩)
     exact Can.weak (Weak.lit (by simp only [go_sem, seval, ao_, ax_, av_, leV, at_, au_, V.inn, us, T9_, Ta_] <;> ((try simp))) (by simp only [go_sem, seval, ao_, ax_, av_, leV, at_, au_, V.inn, us, T9_, Ta_]) (by simp only [go_sem, seval, ao_, ax_, av_, leV, at_, au_, V.inn, us, T9_, Ta_] <;> ((try simp [px_]))))
   refine .rgn [] (by simp only [go_sem, seval, ao_, ax_]; rfl) ?_ ?_
   ·(first | trivial | (simp; done) | (simp only [T3_] at h16; have he := ec_ (show q.1 < s.length by omega); first | exact ⟨by omega, hI.2.1⟩ | exact ⟨by omega, by omega⟩ | (refine ⟨by omega, by omega, by omega, by omega, by simp⟩) | (refine ⟨⟨⟨by omega, by omega, by omega, by omega, by simp⟩, rfl⟩, ?_⟩; simp; omega)))
   refine Exists.intro ((q.1 + c2_ (s.drop q.1), p)) ⟨?_, ?_, ?_⟩
   ·simp only [T3_] at h16; have he := ec_ (show q.1 < s.length by omega); exact ⟨by dsimp only; omega, hI.2.1, by dsimp only; have := hJ.1; omega, hJ.2⟩
   ·simp only [T3_] at h16; have := ec_ (show q.1 < s.length by omega); dsimp only; omega
   exact Can.weak (Weak.lit (by simp only [go_sem, seval, ao_, ax_, av_, leV, at_, au_, V.inn, us, T9_, Ta_] <;> ((try simp))) (by simp only [go_sem, seval, ao_, ax_, av_, leV, at_, au_, V.inn, us, T9_, Ta_]) (by simp only [go_sem, seval, ao_, ax_, av_, leV, at_, au_, V.inn, us, T9_, Ta_] <;> ((try simp))))
  ·refine .exit (.seq (.rgn [] (by simp only [go_sem, seval, ao_, ax_]; rfl) ?_ ?_))
   ·(first | trivial | (simp; done) | (simp only [T3_] at h16; have he := ec_ (show q.1 < s.length by omega); first | exact ⟨by omega, hI.2.1⟩ | exact ⟨by omega, by omega⟩ | (refine ⟨by omega, by omega, by omega, by omega, by simp⟩) | (refine ⟨⟨⟨by omega, by omega, by omega, by omega, by simp⟩, rfl⟩, ?_⟩; simp; omega)))
   refine .frz 60 (by simp only [go_sem, seval, ao_, ax_]; rfl) (by simp only [go_sem, seval, ao_, ax_]) (by simp only [go_sem, seval, ao_, ax_]; rfl) (by simp only [go_sem, seval, ao_, ax_]; rfl) ?_
   refine .ret ⟨.inr rfl, ?_⟩
   exact Out.plainL (by simp only [Tryz.results142]; rfl) (by simp only [a1_, a9_, go_sem, seval, ao_, ax_] <;> (split <;> rfl)) (by simp only [a8_, go_sem, seval, ao_, ax_] <;> (simp only [T4_] at h16; rw [gs_ hI.2.1, hI.2.2.2, ro_ (by omega)]; simp [T1_, ax_, leV, be_])) (by simp only [go_sem, seval, ao_, ax_])
end
section
set_option maxRecDepth 100000
set_option maxHeartbeats 4000000
theorem ae0_ (d : Nat) (w : World) (a b c e : Int) : (Op.equalIn (d + 1 + 1) 52 (.agg #[.int .i64 a, .int .i64 b]) (.agg #[.int .i64 c, .int .i64 e])).run Tryz.prog w = .ok (decide (a = c) && decide (b = e)) w := by
 have u3 := Tryz.underlying3
 have a3 := Tryz.isAgg3
 have z3 := Tryz.sizeOf3
 have hS : Tryz.prog.underlying 52 = some (.struct (Tryz.prog.fieldsOf 52)) := by kernel_rfl
 have hp : Tryz.prog.stoodInHeld 52 = false := by kernel_rfl
 rw [run_equalIn_agg w (d + 1) 52 _ _ hS hp]
 simp only [Program.fieldsOf, Tryz.underlying52]
 go_simp
 by_cases h1 : a = c <;> by_cases h2 : b = e <;> simp [h1, h2]
theorem alt_ : adb_ En.P 54 4 := by
 refine ⟨by kernel_rfl, fun w xs ys hx hy => ?_⟩
 match xs, ys, hx, hy with
 | [a, b, a', b'], [c, d, c', d'], _, _ =>
  have a4 := Tryz.isAgg52
  have z4 := Tryz.sizeOf52
  have hS : Tryz.prog.underlying 54 = some (.struct (Tryz.prog.fieldsOf 54)) := by kernel_rfl
  have hp : Tryz.prog.stoodInHeld 54 = false := by kernel_rfl
  have p0 : ∀ p q r s : Int, (part 52 #[.int .i64 p, .int .i64 q, .int .i64 r, .int .i64 s] 0).run Tryz.prog w = .ok (.agg #[.int .i64 p, .int .i64 q]) w := fun p q r s => by go_simp
  have p2 : ∀ p q r s : Int, (part 52 #[.int .i64 p, .int .i64 q, .int .i64 r, .int .i64 s] 2).run Tryz.prog w = .ok (.agg #[.int .i64 r, .int .i64 s]) w := fun p q r s => by go_simp
  show (Op.equalIn 10000 54 (.agg #[.int .i64 a, .int .i64 b, .int .i64 a', .int .i64 b']) (.agg #[.int .i64 c, .int .i64 d, .int .i64 c', .int .i64 d'])).run Tryz.prog w = _
  rw [show (10000 : Nat) = 9997 + 1 + 1 + 1 from rfl, run_equalIn_agg w (9997 + 1 + 1) 54 _ _ hS hp]
  simp only [Program.fieldsOf, Tryz.underlying54]
  simp only [Op.eqFields, Sem.run_bind, p0, p2, ae0_, Result.andThen_ok]
  by_cases h1 : a = c <;> by_cases h2 : b = d <;> by_cases h3 : a' = c' <;> by_cases h4 : b' = d' <;> simp [Op.eqFields, Sem.run_bind, p0, p2, ae0_, h1, h2, h3, h4]
end
section
set_option maxRecDepth 100000
set_option maxHeartbeats 4000000
theorem acm_ {l : List Sg} {k : Nat} (h : k < l.length) : (sgR l).getD k [] = [.i .i64 (l.getD k G0).1, .i .i64 (l.getD k G0).2.1, .i .i64 (l.getD k G0).2.2.1, .i .i64 (l.getD k G0).2.2.2] := aie_ h
theorem akn_ {a b : Sg} (h : ([a.1, a.2.1, a.2.2.1, a.2.2.2] : List Int) = [b.1, b.2.1, b.2.2.1, b.2.2.2]) : a = b := by
 obtain ⟨a1, a2, a3, a4⟩ := a
 obtain ⟨b1, b2, b3, b4⟩ := b
 simp at h
 obtain ⟨rfl, rfl, rfl, rfl⟩ := h; rfl
theorem zo_ {α : Type} {d : α} {a b : List α} {k : Nat} (ha : k < a.length) (hb : k < b.length) (h : a.take k = b.take k) (e : a.getD k d = b.getD k d) : a.take (k + 1) = b.take (k + 1) := by
 rw [List.take_add_one (l := a), List.take_add_one (l := b), h, T6_ ha, T6_ hb]
 rw [T8_, T8_, T6_ ha, T6_ hb] at e
 rw [show a[k] = b[k] by simpa using e]
theorem akc_ {a b : Sg} (h : (!(some ([a.1, a.2.1, a.2.2.1, a.2.2.2] : List Int) == some [b.1, b.2.1, b.2.2.1, b.2.2.2])) = false) : a = b := akn_ (by simpa using h)
theorem aka_ {a b : Sg} (h : (!(some ([a.1, a.2.1, a.2.2.1, a.2.2.2] : List Int) == some [b.1, b.2.1, b.2.2.1, b.2.2.2])) = true) : a ≠ b := by
 rintro rfl
 simp at h
theorem adc_ (a b : List Sg) (ha : a.length ≤ 1000000000000) (hb : b.length ≤ 1000000000000) : ACall En 58 [.sl false (sgR a), .sl false (sgR b)] [] [.b (a == b)] [] := by
 refine aj_ (fn := Tryz.f58) [] Tryz.func58 rfl rfl (by simp) fun C => ?_
 rw [a0_]
 simp only [Tryz.ntmps58, T7_, List.length_nil, Nat.reduceAdd, Nat.reduceSub, List.replicate_succ, List.replicate_zero, List.cons_append, List.nil_append, bq_]
 refine .seq (.rgn [] (by simp only [go_sem, seval, a2_, aq_, ex_, el_, cq_, dz_]; rfl) ?_ ?_)
 ·first | trivial | simp
 refine .seq (.seq (.rgn [] (by simp only [go_sem, seval, a2_, aq_, ex_, el_, cq_, dz_]; rfl) ?_ ?_))
 ·first | trivial | simp
 refine .condB (by simp only [go_sem, seval, a2_, aq_, ex_, el_, cq_, dz_]; rfl) (by simp only [go_sem, seval, a2_, aq_, ex_, el_, cq_, dz_]) (fun h10 => ?_) (fun h10 => ?_)
 ·refine .seq (.rgn [] (by simp only [go_sem, seval, a2_, aq_, ex_, el_, cq_, dz_]; rfl) ?_ ?_)
  ·first | trivial | simp
  refine .ret ⟨.inr rfl, ?_⟩
  exact Out.plain (by simp only [Tryz.results58]; rfl) (by simp only [a1_, a9_, go_sem, seval, a2_, aq_, ex_, el_, cq_, dz_] <;> (split <;> rfl)) (by simp only [a8_, go_sem, seval, a2_, aq_, ex_, el_, cq_, dz_] <;> (have : a ≠ b := (fun e => by simp [e] at h10); simp [this])) (by simp only [go_sem, seval, a2_, aq_, ex_, el_, cq_, dz_])
 ·refine .skip (.seq (.seq (.rgn [] (by simp only [go_sem, seval, a2_, aq_, ex_, el_, cq_, dz_]; rfl) ?_ ?_)))
  ·first | trivial | simp
  refine .block (.loopK (fun k : Nat => ⟨[.sl false (sgR a), .sl false (sgR b), .no, .no, .no, .no, .no, .no, .no, .no, .no, .no, .i .i64 a.length, .i .i64 k, .no, .no, .no, .no, .no, .no, .no, .no, .no, .no, .no, .no], bg_ [], us []⟩) (fun k : Nat => k ≤ a.length ∧ a.take k = b.take k) (fun k : Nat => a.length - k) (0) ?_ ?_ (fun k hI => ?_))
  ·exact ⟨Nat.zero_le _, rfl⟩
  ·exact Can.weak (Weak.lit (by simp only [go_sem, seval, a2_, aq_, ex_, el_, cq_, dz_, av_, leV, at_, au_, V.inn, us, T9_, Ta_] <;> (simp)) (by simp only [go_sem, seval, a2_, aq_, ex_, el_, cq_, dz_, av_, leV, at_, au_, V.inn, us, T9_, Ta_]) (by simp only [go_sem, seval, a2_, aq_, ex_, el_, cq_, dz_, av_, leV, at_, au_, V.inn, us, T9_, Ta_]))
  refine .seq (.rgn [] (by simp only [go_sem, seval, a2_, aq_, ex_, el_, cq_, dz_]; rfl) ?_ ?_)
  ·first | trivial | simp
  refine .seq (.condB (by simp only [go_sem, seval, a2_, aq_, ex_, el_, cq_, dz_]; rfl) (by simp only [go_sem, seval, a2_, aq_, ex_, el_, cq_, dz_]) (fun h14 => ?_) (fun h14 => ?_))
  ·refine .skip (.seq (.block (.seq (.rgn [] (by simp only [go_sem, seval, a2_, aq_, ex_, el_, cq_, dz_]; rfl) ?_ ?_))))
   ·first | trivial | simp
   refine .seq (.rgnDS [24] [ex_ En .neq 54 4 alt_] enM (by simp only [go_sem, seval, a2_, aq_, ex_, el_, cq_, dz_, acm_ (show k < a.length by simpa using h14), acm_ (show k < b.length by simp at h14 h10; omega)]; rfl) (by rfl) ?_ ?_)
   ·simp at h14 h10; simp; omega
   refine .condB (by simp only [go_sem, seval, a2_, aq_, ex_, el_, cq_, dz_]; rfl) (by simp only [go_sem, seval, a2_, aq_, ex_, el_, cq_, dz_]) (fun h24 => ?_) (fun h24 => ?_)
   ·refine .seq (.rgn [] (by simp only [go_sem, seval, a2_, aq_, ex_, el_, cq_, dz_]; rfl) ?_ ?_)
    ·first | trivial | simp
    refine .ret ⟨.inr rfl, ?_⟩
    exact Out.plain (by simp only [Tryz.results58]; rfl) (by simp only [a1_, a9_, go_sem, seval, a2_, aq_, ex_, el_, cq_, dz_] <;> (split <;> rfl)) (by simp only [a8_, go_sem, seval, a2_, aq_, ex_, el_, cq_, dz_] <;> (have := aka_ h24; have : a ≠ b := (fun e => this (by rw [e])); simp [this])) (by simp only [go_sem, seval, a2_, aq_, ex_, el_, cq_, dz_])
   ·refine .skip (.rgn [] (by simp only [go_sem, seval, a2_, aq_, ex_, el_, cq_, dz_]; rfl) ?_ ?_)
    ·first | trivial | simp
    refine Exists.intro (k + 1) ⟨?_, ?_, ?_⟩
    ·simp only [T3_] at h14; simp at h10; exact ⟨by omega, zo_ (by omega) (by omega) hI.2 (akc_ h24)⟩
    ·simp at h14; omega
    exact Can.weak (Weak.lit (by simp only [go_sem, seval, a2_, aq_, ex_, el_, cq_, dz_, av_, leV, at_, au_, V.inn, us, T9_, Ta_] <;> (rw [bh_ (by simp at h14; omega) (by simp at h14; omega)]; simp)) (by simp only [go_sem, seval, a2_, aq_, ex_, el_, cq_, dz_, av_, leV, at_, au_, V.inn, us, T9_, Ta_]) (by simp only [go_sem, seval, a2_, aq_, ex_, el_, cq_, dz_, av_, leV, at_, au_, V.inn, us, T9_, Ta_]))
  ·refine .exit (.seq (.rgn [] (by simp only [go_sem, seval, a2_, aq_, ex_, el_, cq_, dz_]; rfl) ?_ ?_))
   ·first | trivial | simp
   refine .ret ⟨.inr rfl, ?_⟩
   exact Out.plain (by simp only [Tryz.results58]; rfl) (by simp only [a1_, a9_, go_sem, seval, a2_, aq_, ex_, el_, cq_, dz_] <;> (split <;> rfl)) (by simp only [a8_, go_sem, seval, a2_, aq_, ex_, el_, cq_, dz_] <;> (simp only [T4_] at h14; simp at h10; have q := hI.2; rw [T1_ (by omega), T1_ (by omega)] at q; simp [q])) (by simp only [go_sem, seval, a2_, aq_, ex_, el_, cq_, dz_])
theorem x1_ (a b : List Sg) (ha : a.length ≤ 1000000000000) (hb : b.length ≤ 1000000000000) : ACall En 22 [.sl false (sgR a), .sl false (sgR b)] [] [.b (a == b)] [] := by
 refine aj_ (fn := Tryz.f22) [] Tryz.func22 rfl rfl (by simp) fun C => ?_
 rw [a0_]
 simp only [Tryz.ntmps22, T7_, List.length_nil, Nat.reduceAdd, Nat.reduceSub, List.replicate_succ, List.replicate_zero, List.cons_append, List.nil_append, bq_]
 refine .seq (.rgn [] (by simp only [go_sem, seval, aq_]; rfl) ?_ ?_)
 ·first | trivial | simp
 refine .seq (.rgn [a5_ (adc_ a b ha hb)] (by simp only [go_sem, seval, aq_]; rfl) ?_ ?_)
 ·first | trivial | simp
 refine .ret ⟨.inr rfl, ?_⟩
 exact Out.plain (by simp only [Tryz.results22]; rfl) (by simp only [a1_, a9_, go_sem, seval, aq_] <;> (split <;> rfl)) (by simp only [a8_, go_sem, seval, aq_] <;> (rfl)) (by simp only [go_sem, seval, aq_])
end
end Go.Proofs.YtpikbndepapbhaaGreatDoor
