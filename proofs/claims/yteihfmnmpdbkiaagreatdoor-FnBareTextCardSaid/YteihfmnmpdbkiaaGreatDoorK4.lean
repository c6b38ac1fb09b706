/- Parts of the proof, one after another: Tree logic, part 28: two aggregates of numbers, one held against the other. | Numbers and words of a line: the reference's l12Num, l3Num, TokOk, TokKind, l3Class. | Words of a line: the reference's TokOk, TokKind, TokLine. | Places held against each other: ==, slices.Equal, SegsSame; whether places are in order. | Whether places are the same; whether they are in order; the reference's EmitSegs. Conditions: none. -/
import Derived.Test.YteihfmnmpdbkiaaGreatDoorKb
import Derived.Laws.StructEq
import Derived.Test.YteihfmnmpdbkiaaGreatDoorKn
import Derived.Test.YteihfmnmpdbkiaaGreatDoorKg
import Derived.Test.YteihfmnmpdbkiaaGreatDoorKd
import Derived.Test.YteihfmnmpdbkiaaGreatDoorK3
import Derived.Test.YteihfmnmpdbkiaaGreatDoorK1
set_option linter.unusedVariables false
set_option linter.unusedSimpArgs false
namespace Go.Proofs.YteihfmnmpdbkiaaGreatDoor
section
open Go.RowKit

def intA : List V → Option (List Int)
  | [] => some []
  | .i .i64 n :: r => (intA r).map (n :: ·)
  | _ :: _ => none
def intAg : V → Option (List Int)
  | .ag xs => intA xs
  | _ => none
theorem intA_vals {φ : Phi} {S : Nat → Prop} {w : World} : ∀ {vs : List V} {xs : List Value} {l : List Int}, VRs φ S w vs xs → intA vs = some l → xs = l.map (Value.int .i64)
  | [], xs, l, h, e => by
    simp only [intA, Option.some.injEq] at e
    subst e
    simp only [VRs] at h
    subst h; rfl
  | v :: vs, xs, l, h, e => by
    simp only [VRs] at h
    obtain ⟨x, r, rfl, h1, h2⟩ := h
    cases v <;> try (simp [intA] at e; done)
    rename_i k n
    cases k <;> try (simp [intA] at e; done)
    simp only [intA] at e
    obtain ⟨l', e1, rfl⟩ := Option.map_eq_some_iff.1 e
    simp only [VR] at h1
    rw [h1, intA_vals h2 e1]; rfl
def EqInts (P : Program) (t : TypeId) (n : Nat) : Prop := P.eqGuardType P.depth t = false ∧ ∀ (w : World) (xs ys : List Int), xs.length = n → ys.length = n → (Op.equalIn 10000 t (.agg (xs.map (Value.int .i64)).toArray) (.agg (ys.map (Value.int .i64)).toArray)).run P w = .ok (xs == ys) w
def cmpB : BinOp → Option (List Int) → Option (List Int) → Bool
  | .neq, a, b => !(a == b)
  | _, a, b => a == b
theorem intAg_open {φ : Phi} {S : Nat → Prop} {w : World} {v : V} {x : Value} {l : List Int} (h : VR φ S w v x) (e : intAg v = some l) : x = .agg (l.map (Value.int .i64)).toArray := by
  cases v <;> try (simp [intAg] at e; done)
  rename_i xs
  simp only [intAg] at e
  simp only [VR] at h
  obtain ⟨ys, rfl, hy⟩ := h
  have := intA_vals hy e
  congr 1
  apply Array.ext'; simpa using this
def cmpO (E : Env) (op : BinOp) (t : TypeId) (n : Nat) (H : EqInts E.P t n) : CallC E where
  ef := fun o s => match o.op with
    | .binOp _ _ x y _ => { v := .b (cmpB op (intAg (s.pv E x)) (intAg (s.pv E y))) }
    | _ => { v := .no }
  ob := fun o s => pcB E o s = true ∧ match o.op with
    | .binOp op' t' x y _ => op' = op ∧ t' = t ∧ (op = .eql ∨ op = .neq) ∧ (intAg (s.pv E x)).map List.length = some n ∧ (intAg (s.pv E y)).map List.length = some n
    | _ => False
  ok := fun o s ⟨h1, h2⟩ => by
    obtain ⟨dst, op0, ty, pos, after, guard⟩ := o
    split at h2
    · rename_i op' t' x y t2 ho
      dsimp only at ho
      subst ho
      obtain ⟨rfl, rfl, hop, hx, hy⟩ := h2
      obtain ⟨xs, ex, lx⟩ := Option.map_eq_some_iff.1 hx
      obtain ⟨ys, ey, ly⟩ := Option.map_eq_some_iff.1 hy
      refine Op1.pure' (pcB_spec h1) fun φ S w ρ hr _ => ?_
      have k1 := intAg_open (hr x (by simp [Op.operands])) ex
      have k2 := intAg_open (hr y (by simp [Op.operands])) ey
      have hE := H.2 w xs ys lx ly
      rw [ex, ey]
      rcases hop with rfl | rfl
      · exact ⟨.bool (xs == ys), by simp [execOp, k1, k2, run_eqGuard_agg w .eql _ x y _ _ H.1, run_eql_struct, hE, Result.andThen], by simp [VR, cmpB]⟩
      · exact ⟨.bool (!(xs == ys)), by simp [execOp, k1, k2, run_eqGuard_agg w .neq _ x y _ _ H.1, run_neq_struct, hE, Result.andThen], by simp [VR, cmpB]⟩
    · exact h2.elim
end

section
set_option maxRecDepth 100000
set_option maxHeartbeats 4000000

theorem head_45 (s : Str) : (decide ((s.length : Int) > 0) && (((s.getD 0 0).toNat : Int) == 45)) = (s.head? == some 45) := by
  cases s with
  | nil => rfl
  | cons c r =>
    have h : decide (((c :: r).length : Int) > 0) = true := by simp only [List.length_cons, decide_eq_true_eq]; omega
    rw [h, Bool.true_and]
    simp only [List.getD_cons_zero, List.head?_cons]
    rw [Bool.eq_iff_iff]
    simp only [beq_iff_eq, Option.some.injEq]
    constructor
    · intro e; apply UInt8.toNat_inj.1; show _ = 45; omega
    · intro e; rw [e]; rfl
theorem numVal_lt : ∀ (k : Nat) (l : Str), k ≤ l.length → (l.take k).all digit = true → numVal (l.take k) < 10 ^ k
  | 0, l, _, _ => by simp [numVal]
  | k + 1, l, hk, h => by
    have e : l.take (k + 1) = l.take k ++ [l.getD k 0] := by
      rw [List.take_add_one, List.getElem?_eq_getElem hk, List.getD_eq_getElem?_getD, List.getElem?_eq_getElem hk]; rfl
    rw [e, List.all_append, Bool.and_eq_true] at h
    have ih := numVal_lt k l (by omega) h.1
    rw [e, numVal_snoc, Nat.pow_succ]
    have hd : digit (l.getD k 0) = true := by simpa using h.2
    simp only [digit, Bool.and_eq_true, decide_eq_true_eq] at hd
    omega
theorem num_take {l : Str} {k : Nat} (hk : k < l.length) : numVal (l.take (k + 1)) = numVal (l.take k) * 10 + ((l.getD k 0).toNat - 48) := by
  have e : l.take (k + 1) = l.take k ++ [l.getD k 0] := by
    rw [List.take_add_one, List.getElem?_eq_getElem hk, List.getD_eq_getElem?_getD, List.getElem?_eq_getElem hk]; rfl
  rw [e, numVal_snoc]
theorem num17 {l : Str} {k : Nat} (hk : k ≤ l.length) (h17 : l.length ≤ 17) (h : (l.take k).all digit = true) : numVal (l.take k) < 100000000000000000 := by
  have := numVal_lt k l hk h
  have h2 : 10 ^ k ≤ 10 ^ 17 := Nat.pow_le_pow_right (by decide) (by omega)
  have h3 : (10 : Nat) ^ 17 = 100000000000000000 := by decide
  omega
def neg12 (s : Str) : Bool := s.head? == some 45
def body12 (s : Str) : Str := if neg12 s then s.tail else s
theorem num12_eq (s : Str) : num12 s = if (body12 s).length = 0 ∨ 17 < (body12 s).length ∨ ((body12 s).head? = some 48 ∧ (1 < (body12 s).length ∨ neg12 s = true)) then (0, false) else if (body12 s).all digit then (if neg12 s then -(numVal (body12 s) : Int) else numVal (body12 s), true) else (0, false) := rfl
theorem head_48 (q : Str) (h : q ≠ []) : (((q.getD 0 0).toNat : Int) == 48) = decide (q.head? = some 48) := by
  cases q with
  | nil => exact absurd rfl h
  | cons c r =>
    simp only [List.getD_cons_zero, List.head?_cons, Option.some.injEq]
    rw [Bool.eq_iff_iff]
    simp only [beq_iff_eq, decide_eq_true_eq]
    constructor
    · intro e; apply UInt8.toNat_inj.1; show _ = 48; omega
    · intro e; rw [e]; rfl
theorem stop12 (q : Str) (n : Bool) : (((q.length : Int) == 0) || decide ((q.length : Int) > 17) || (((q.getD 0 0).toNat : Int) == 48) && (decide ((q.length : Int) > 1) || n)) = decide (q.length = 0 ∨ 17 < q.length ∨ (q.head? = some 48 ∧ (1 < q.length ∨ n = true))) := by
  by_cases hq : q = []
  · subst hq; simp
  · rw [head_48 q hq, Bool.eq_iff_iff]
    simp only [Bool.or_eq_true, Bool.and_eq_true, beq_iff_eq, decide_eq_true_eq]
    constructor
    · rintro ((h | h) | ⟨h1, h2 | h2⟩)
      · exact .inl (by omega)
      · exact .inr (.inl (by omega))
      · exact .inr (.inr ⟨h1, .inl (by omega)⟩)
      · exact .inr (.inr ⟨h1, .inr h2⟩)
    · rintro (h | h | ⟨h1, h2 | h2⟩)
      · exact .inl (.inl (by omega))
      · exact .inl (.inr (by omega))
      · exact .inr ⟨h1, .inl (by omega)⟩
      · exact .inr ⟨h1, .inr h2⟩
theorem num12_stop {s : Str} (h : (((body12 s).length : Int) == 0 || decide (((body12 s).length : Int) > 17) || ((((body12 s).getD 0 0).toNat : Int) == 48) && (decide (((body12 s).length : Int) > 1) || neg12 s)) = true) : num12 s = (0, false) := by
  rw [stop12] at h
  rw [num12_eq, if_pos (of_decide_eq_true h)]
theorem num12_go {s : Str} (h : (((body12 s).length : Int) == 0 || decide (((body12 s).length : Int) > 17) || ((((body12 s).getD 0 0).toNat : Int) == 48) && (decide (((body12 s).length : Int) > 1) || neg12 s)) = false) : (body12 s).length ≤ 17 ∧ num12 s = (if (body12 s).all digit then (if neg12 s then -(numVal (body12 s) : Int) else numVal (body12 s), true) else (0, false)) := by
  rw [stop12] at h
  have := of_decide_eq_false h
  exact ⟨by omega, by rw [num12_eq, if_neg this]⟩
theorem idxB_at (c : UInt8) : ∀ (s : Str) (k : Nat), k < s.length → c ∉ s.take k → s.getD k 0 = c → Lib.indexByte s c = k
  | [], k, h, _, _ => by simp at h
  | b :: s, 0, _, _, e => by
    simp only [List.getD_cons_zero] at e
    subst e
    unfold Lib.indexByte; simp
  | b :: s, k + 1, h, hn, e => by
    simp only [List.take_succ_cons, List.mem_cons, not_or] at hn
    have ih := idxB_at c s k (by simpa using h) hn.2 (by simpa using e)
    unfold Lib.indexByte
    rw [if_neg (by simpa using fun q => hn.1 q.symm), ih, if_neg (by simp)]; rfl
theorem idxB_no (c : UInt8) (s : Str) (h : c ∉ s) : Lib.indexByte s c = -1 := by
  have h1 := idx_ge s c
  have h2 : ¬ 0 ≤ Lib.indexByte s c := fun q => h ((idx_mem s c).1 q)
  omega
theorem byte_eq {a b : UInt8} (h : ((a.toNat : Int) == (b.toNat : Int)) = true) : a = b := by
  simp only [beq_iff_eq] at h
  apply UInt8.toNat_inj.1; omega
theorem byte_ne {a b : UInt8} (h : ((a.toNat : Int) == (b.toNat : Int)) = false) : a ≠ b := by
  rintro rfl; simp at h
theorem mem_take {s : Str} {k : Nat} {c : UInt8} (hk : k < s.length) (h : c ∉ s.take k) (h2 : s.getD k 0 ≠ c) : c ∉ s.take (k + 1) := by
  rw [List.take_add_one, List.getElem?_eq_getElem hk]
  rw [List.getD_eq_getElem?_getD, List.getElem?_eq_getElem hk] at h2
  simp only [Option.toList, List.mem_append, List.mem_cons, List.not_mem_nil, or_false, not_or]
  exact ⟨h, fun e => h2 e.symm⟩
theorem digit_no {c : UInt8} (h : (decide ((c.toNat : Int) < 48) || decide ((c.toNat : Int) > 57)) = true) : digit c = false := by
  simp only [Bool.or_eq_true, decide_eq_true_eq] at h
  rw [Bool.eq_false_iff]
  intro q
  simp only [digit, Bool.and_eq_true, decide_eq_true_eq] at q
  omega
theorem digit_yes {c : UInt8} (h : (decide ((c.toNat : Int) < 48) || decide ((c.toNat : Int) > 57)) = false) : digit c = true ∧ 48 ≤ c.toNat ∧ c.toNat ≤ 57 := by
  simp only [Bool.or_eq_false_iff, decide_eq_false_iff_not] at h
  simp only [digit, Bool.and_eq_true, decide_eq_true_eq]
  omega
theorem wrapU8 {n : Int} (h1 : 0 ≤ n) (h2 : n < 256) : IntKind.u8.wrap n = n := by
  have e : (2 : Int) ^ IntKind.u8.bits = 256 := rfl
  have e' : IntKind.u8.signed = false := rfl
  simp only [IntKind.wrap, e, e', Bool.false_and, Bool.false_eq_true, if_false]
  omega
theorem all_get {q : Str} {k : Nat} (hk : k < q.length) : (q.take (k + 1)).all digit = ((q.take k).all digit && digit (q.getD k 0)) := by
  rw [List.take_add_one, List.getElem?_eq_getElem hk, List.all_append, List.getD_eq_getElem?_getD, List.getElem?_eq_getElem hk]; simp
theorem l12Num_a (s : Str) (hs : s.length ≤ 281474976710656) : ACall En 248 [.s s] [] [.i .i64 (num12 s).1, .b (num12 s).2] [] := by
  have hq : (body12 s).length ≤ s.length := by unfold body12; split <;> simp
  have hN := num12_eq s
  refine acall_of_body (fn := Tryz.f248) [] Tryz.func248 rfl rfl (by simp) fun C => ?_
  rw [entry_eq]
  simp only [Tryz.ntmps248, List.length_cons, List.length_nil, Nat.reduceAdd, Nat.reduceSub, List.replicate_succ, List.replicate_zero, List.cons_append, List.nil_append, numL]
  refine AWp.seq ?_
  refine AWp.rgn [] (by simp only [go_sem, seval]; rfl) ?_ ?_
  · (first | trivial | (simp; done))
  refine AWp.seq ?_
  refine AWp.rgn [] (by simp only [go_sem, seval]; rfl) ?_ ?_
  · (first | trivial | (simp; done))
  refine AWp.seqJ (fun q : Str => ⟨[.s q, .no, .no, .no, .b (neg12 s), .no, .no, .no, .no, .no, .no, .no, .no, .no, .no, .no, .no, .no, .no, .no, .no, .no, .no, .no, .no, .no, .no, .no, .no, .no, .no, .no, .no, .no, .no, .no, .no, .no, .no, .no, .no, .no, .no, .no, .no, .no, .no, .no, .no, .no, .no, .no, .no, .no, .no, .no, .no, .no, .no, .no, .no, .no, .no, .no, .no, .no, .no], memOf [], us []⟩) (fun q : Str => q = body12 s) ?_ (fun q hJ => ?_)
  · refine AWp.seq ?_
    refine AWp.rgn [] (by simp only [go_sem, seval]; rfl) ?_ ?_
    · (first | trivial | (simp; done))
    refine AWp.condB (by simp only [go_sem, seval]; rfl) (by simp only [go_sem, seval]) (fun h15 => ?_) (fun h15 => ?_)
    · refine AWp.rgn [] (by simp only [go_sem, seval]; rfl) ?_ ?_
      · rw [Bool.and_eq_true] at h15; have h0 := of_decide_eq_true h15.1; omega
      refine Exists.intro (s.drop 1) ⟨?_, ?_⟩
      · rw [head_45] at h15; unfold body12 neg12; rw [h15]; simp
      exact Can.weak (Weak.lit (by simp only [go_sem, seval, subM, leV, inns, innr, V.inn, us, true_or, or_true] <;> (first | (refine ⟨by simp [List.take_of_length_le], ?_⟩; rw [head_45]; rfl) | (rw [head_45]; rfl))) (by simp only [go_sem, seval, subM, leV, inns, innr, V.inn, us, true_or, or_true]) (by simp only [go_sem, seval, subM, leV, inns, innr, V.inn, us, true_or, or_true]))
    · refine AWp.skip ?_
      refine Exists.intro (s) ⟨?_, ?_⟩
      · rw [head_45] at h15; unfold body12 neg12; rw [h15]; simp
      exact Can.weak (Weak.lit (by simp only [go_sem, seval, subM, leV, inns, innr, V.inn, us, true_or, or_true] <;> (first | (refine ⟨by simp [List.take_of_length_le], ?_⟩; rw [head_45]; rfl) | (rw [head_45]; rfl))) (by simp only [go_sem, seval, subM, leV, inns, innr, V.inn, us, true_or, or_true]) (by simp only [go_sem, seval, subM, leV, inns, innr, V.inn, us, true_or, or_true]))
  refine AWp.seq ?_
  refine AWp.seq ?_
  refine AWp.rgn [] (by simp only [go_sem, seval]; rfl) ?_ ?_
  · refine ⟨⟨⟨⟨fun h => by rw [h]; rfl, fun h => ⟨h, by simp only [Bool.not_eq_true', Bool.or_eq_false_iff, beq_eq_false_iff_ne] at h; have := h.1; omega⟩⟩, fun h => ⟨h, fun h2 => by rw [h, h2]; rfl⟩⟩, fun h => ⟨h, fun h2 => by rw [h, h2]; rfl⟩⟩, fun h => by rw [h]; rfl⟩
  refine AWp.condB (by simp only [go_sem, seval]; rfl) (by simp only [go_sem, seval]) (fun h38 => ?_) (fun h38 => ?_)
  · refine AWp.seq ?_
    refine AWp.rgn [] (by simp only [go_sem, seval]; rfl) ?_ ?_
    · (first | trivial | (simp; done))
    refine AWp.ret (And.intro (.inr rfl) ?_)
    exact Out.plain (by simp only [Tryz.results248]; rfl) (by simp only [resCs, resC, go_sem, seval] <;> (split <;> rfl)) (by simp only [resV, go_sem, seval] <;> (subst hJ; rw [num12_stop h38])) (by simp only [go_sem, seval])
  · refine AWp.skip ?_
    refine AWp.seq ?_
    refine AWp.rgn [] (by simp only [go_sem, seval]; rfl) ?_ ?_
    · (first | trivial | (simp; done))
    refine AWp.seq ?_
    refine AWp.seq ?_
    refine AWp.rgn [] (by simp only [go_sem, seval]; rfl) ?_ ?_
    · (first | trivial | (simp; done))
    refine AWp.block ?_
    refine AWp.loopK (fun k : Nat => ⟨[.s q, .no, .no, .no, .b (neg12 s), .i .i64 (numVal (q.take k)), .i .i64 k, .no, .no, .no, .no, .no, .no, .no, .no, .no, .no, .no, .no, .no, .no, .no, .no, .no, .no, .no, .no, .no, .no, .no, .no, .no, .no, .no, .no, .no, .no, .no, .no, .no, .no, .no, .no, .no, .no, .no, .no, .no, .no, .no, .no, .no, .no, .no, .no, .no, .no, .no, .no, .no, .no, .no, .no, .no, .no, .no, .no], memOf [], us []⟩) (fun k : Nat => k ≤ q.length ∧ q.length ≤ 17 ∧ (q.take k).all digit = true) (fun k : Nat => q.length - k) (0) ?_ ?_ (fun k hI => ?_)
    · subst hJ; exact ⟨Nat.zero_le _, (num12_go h38).1, by simp⟩
    · exact Can.weak (Weak.lit (by simp only [go_sem, seval, subM, leV, inns, innr, V.inn, us, true_or, or_true] <;> (simp [numVal])) (by simp only [go_sem, seval, subM, leV, inns, innr, V.inn, us, true_or, or_true]) (by simp only [go_sem, seval, subM, leV, inns, innr, V.inn, us, true_or, or_true]))
    refine AWp.seq ?_
    refine AWp.seq ?_
    refine AWp.rgn [] (by simp only [go_sem, seval]; rfl) ?_ ?_
    · (first | trivial | (simp; done))
    refine AWp.condB (by simp only [go_sem, seval]; rfl) (by simp only [go_sem, seval]) (fun h42 => ?_) (fun h42 => ?_)
    · refine AWp.skip ?_
      refine AWp.seq ?_
      refine AWp.block ?_
      refine AWp.seq ?_
      refine AWp.seq ?_
      refine AWp.rgn [] (by simp only [go_sem, seval]; rfl) ?_ ?_
      · simp only [decide_eq_true_eq] at h42; exact ⟨⟨⟨by omega, by omega⟩, fun h => ⟨h, by omega, by omega⟩⟩, fun h => by rw [h]; rfl⟩
      refine AWp.condB (by simp only [go_sem, seval]; rfl) (by simp only [go_sem, seval]) (fun h54 => ?_) (fun h54 => ?_)
      · refine AWp.seq ?_
        refine AWp.rgn [] (by simp only [go_sem, seval]; rfl) ?_ ?_
        · (first | trivial | (simp; done))
        refine AWp.ret (And.intro (.inr rfl) ?_)
        exact Out.plain (by simp only [Tryz.results248]; rfl) (by simp only [resCs, resC, go_sem, seval] <;> (split <;> rfl)) (by simp only [resV, go_sem, seval] <;> (subst hJ; simp only [decide_eq_true_eq] at h42; rw [(num12_go h38).2, if_neg]; intro h; have := List.all_eq_true.1 h _ (getD_mem (d := 0) (show k < (body12 s).length by omega)); rw [digit_no h54] at this; cases this)) (by simp only [go_sem, seval])
      · refine AWp.skip ?_
        refine AWp.rgn [] (by simp only [go_sem, seval]; rfl) ?_ ?_
        · simp only [decide_eq_true_eq] at h42; exact ⟨by omega, by omega⟩
        refine AWp.rgn [] (by simp only [go_sem, seval]; rfl) ?_ ?_
        · (first | trivial | (simp; done))
        refine Exists.intro (k + 1) ⟨?_, ?_, ?_⟩
        · simp only [decide_eq_true_eq] at h42; exact ⟨by omega, hI.2.1, by rw [all_get (by omega), hI.2.2, (digit_yes h54).1]; rfl⟩
        · simp at h42; omega
        exact Can.weak (Weak.lit (by simp only [go_sem, seval, subM, leV, inns, innr, V.inn, us, true_or, or_true] <;> ((simp only [decide_eq_true_eq] at h42); (have hb := num17 hI.1 hI.2.1 hI.2.2); (have hd := digit_yes h54); rw [wrapU8 (by omega) (by omega), wrap64 (show -9223372036854775808 ≤ (((q.getD k 0).toNat : Int) - 48) by omega) (by omega), wrap64 (show -9223372036854775808 ≤ ((numVal (q.take k) : Int) * 10) by omega) (by omega), wrap64 (by omega) (by omega), wrap64 (by omega) (by omega), num_take (show k < q.length by omega)]; omega)) (by simp only [go_sem, seval, subM, leV, inns, innr, V.inn, us, true_or, or_true]) (by simp only [go_sem, seval, subM, leV, inns, innr, V.inn, us, true_or, or_true]))
    · refine AWp.exit ?_
      refine AWp.seqJ (fun v : Int => ⟨[.no, .no, .no, .no, .no, .i .i64 v, .no, .no, .no, .no, .no, .no, .no, .no, .no, .no, .no, .no, .no, .no, .no, .no, .no, .no, .no, .no, .no, .no, .no, .no, .no, .no, .no, .no, .no, .no, .no, .no, .no, .no, .no, .no, .no, .no, .no, .no, .no, .no, .no, .no, .no, .no, .no, .no, .no, .no, .no, .no, .no, .no, .no, .no, .no, .no, .no, .no, .no], memOf [], us []⟩) (fun v : Int => v = (if neg12 s then -(numVal q : Int) else numVal q) ∧ q.all digit = true) ?_ (fun v hJ => ?_)
      · refine AWp.seq ?_
        refine AWp.rgn [] (by simp only [go_sem, seval]; rfl) ?_ ?_
        · (first | trivial | (simp; done))
        refine AWp.condB (by simp only [go_sem, seval]; rfl) (by simp only [go_sem, seval]) (fun h63 => ?_) (fun h63 => ?_)
        · refine AWp.rgn [] (by simp only [go_sem, seval]; rfl) ?_ ?_
          · (first | trivial | (simp; done))
          refine Exists.intro (-(numVal q : Int)) ⟨?_, ?_⟩
          · simp only [decide_eq_false_iff_not] at h42; (have h2 := hI.2.2); rw [List.take_of_length_le (by omega)] at h2; rw [h63]; exact ⟨by simp, h2⟩
          exact Can.weak (Weak.lit (by simp only [go_sem, seval, subM, leV, inns, innr, V.inn, us, true_or, or_true] <;> ((simp only [decide_eq_false_iff_not] at h42); (have hb := num17 hI.1 hI.2.1 hI.2.2); rw [List.take_of_length_le (by omega)] at hb ⊢; (try first | (rw [wrap64 (by omega) (by omega)] <;> omega) | rfl))) (by simp only [go_sem, seval, subM, leV, inns, innr, V.inn, us, true_or, or_true]) (by simp only [go_sem, seval, subM, leV, inns, innr, V.inn, us, true_or, or_true]))
        · refine AWp.skip ?_
          refine Exists.intro ((numVal q : Int)) ⟨?_, ?_⟩
          · simp only [decide_eq_false_iff_not] at h42; (have h2 := hI.2.2); rw [List.take_of_length_le (by omega)] at h2; rw [h63]; exact ⟨by simp, h2⟩
          exact Can.weak (Weak.lit (by simp only [go_sem, seval, subM, leV, inns, innr, V.inn, us, true_or, or_true] <;> ((simp only [decide_eq_false_iff_not] at h42); (have hb := num17 hI.1 hI.2.1 hI.2.2); rw [List.take_of_length_le (by omega)] at hb ⊢; (try first | (rw [wrap64 (by omega) (by omega)] <;> omega) | rfl))) (by simp only [go_sem, seval, subM, leV, inns, innr, V.inn, us, true_or, or_true]) (by simp only [go_sem, seval, subM, leV, inns, innr, V.inn, us, true_or, or_true]))
      refine AWp.seq ?_
      refine AWp.rgn [] (by simp only [go_sem, seval]; rfl) ?_ ?_
      · (first | trivial | (simp; done))
      refine AWp.ret (And.intro (.inr rfl) ?_)
      exact Out.plain (by simp only [Tryz.results248]; rfl) (by simp only [resCs, resC, go_sem, seval] <;> (split <;> rfl)) (by simp only [resV, go_sem, seval] <;> (obtain ⟨j1, j2⟩ := hJ; (have e : q = body12 s := (by assumption)); subst e; rw [(num12_go h38).2, if_pos j2, ← j1])) (by simp only [go_sem, seval])
theorem l3Num_a (s : Str) (hs : s.length ≤ 281474976710656) : ACall En 240 [.s s] [] [.b (numOk s)] [] := by
  have h := (num12_ok s).1
  refine acall_of_body (fn := Tryz.f240) [] Tryz.func240 rfl rfl (by simp) fun C => ?_
  rw [entry_eq]
  simp only [Tryz.ntmps240, List.length_cons, List.length_nil, Nat.reduceAdd, Nat.reduceSub, List.replicate_succ, List.replicate_zero, List.cons_append, List.nil_append, numL]
  refine AWp.seq ?_
  refine AWp.rgn [] (by simp only [go_sem, seval]; rfl) ?_ ?_
  · (first | trivial | (simp; done))
  refine AWp.seq ?_
  refine AWp.rgn [call0 (l12Num_a s hs)] (by simp only [go_sem, seval]; rfl) ?_ ?_
  · (first | trivial | (simp; done))
  refine AWp.seq ?_
  refine AWp.rgn [] (by simp only [go_sem, seval]; rfl) ?_ ?_
  · (first | trivial | (simp; done))
  refine AWp.ret (And.intro (.inr rfl) ?_)
  exact Out.plain (by simp only [Tryz.results240]; rfl) (by simp only [resCs, resC, go_sem, seval] <;> (split <;> rfl)) (by simp only [resV, go_sem, seval] <;> (rw [← h]; simp [Bool.and_assoc])) (by simp only [go_sem, seval])
theorem l3Marks_a : ACall En 239 [] [] [.s marks] [] := by
  refine acall_of_body (fn := Tryz.f239) [] Tryz.func239 rfl rfl (by simp) fun C => ?_
  rw [entry_eq]
  simp only [Tryz.ntmps239, List.length_cons, List.length_nil, Nat.reduceAdd, Nat.reduceSub, List.replicate_succ, List.replicate_zero, List.cons_append, List.nil_append, numL]
  refine AWp.seq ?_
  refine AWp.rgn [] (by simp only [go_sem, seval]; rfl) ?_ ?_
  · first | trivial | simp
  refine AWp.seq ?_
  refine AWp.rgn [] (by simp only [go_sem, seval]; rfl) ?_ ?_
  · first | trivial | simp
  refine AWp.ret (And.intro (.inr rfl) ?_)
  exact Out.plain (by simp only [Tryz.results239]; rfl) (by simp only [resCs, resC, go_sem, seval] <;> (split <;> rfl)) (by simp only [resV, go_sem, seval] <;> (rfl)) (by simp only [go_sem, seval])
theorem l12Find_a (s : Str) (c : UInt8) (hs : s.length ≤ 281474976710656) : ACall En 238 [.s s, .i .u8 c.toNat] [] [.i .i64 (Lib.indexByte s c)] [] := by
  refine acall_of_body (fn := Tryz.f238) [] Tryz.func238 rfl rfl (by simp) fun C => ?_
  rw [entry_eq]
  simp only [Tryz.ntmps238, List.length_cons, List.length_nil, Nat.reduceAdd, Nat.reduceSub, List.replicate_succ, List.replicate_zero, List.cons_append, List.nil_append, numL]
  refine AWp.seq ?_
  refine AWp.rgn [] (by simp only [go_sem, seval]; rfl) ?_ ?_
  · (first | trivial | (simp; done) | (simp at h9; simp; omega))
  refine AWp.seq ?_
  refine AWp.seq ?_
  refine AWp.rgn [] (by simp only [go_sem, seval]; rfl) ?_ ?_
  · (first | trivial | (simp; done) | (simp at h9; simp; omega))
  refine AWp.block ?_
  refine AWp.loopK (fun k : Nat => ⟨[.s s, .i .u8 c.toNat, .no, .no, .no, .i .i64 k, .no, .no, .no, .no, .no, .no, .no, .no, .no, .no, .no, .no], memOf [], us []⟩) (fun k : Nat => k ≤ s.length ∧ c ∉ s.take k) (fun k : Nat => s.length - k) (0) ?_ ?_ (fun k hI => ?_)
  · simp
  · exact Can.weak (Weak.lit (by simp only [go_sem, seval, subM, leV, inns, innr, V.inn, us, true_or, or_true] <;> ((try simp))) (by simp only [go_sem, seval, subM, leV, inns, innr, V.inn, us, true_or, or_true]) (by simp only [go_sem, seval, subM, leV, inns, innr, V.inn, us, true_or, or_true]))
  refine AWp.seq ?_
  refine AWp.seq ?_
  refine AWp.rgn [] (by simp only [go_sem, seval]; rfl) ?_ ?_
  · (first | trivial | (simp; done) | (simp at h9; simp; omega))
  refine AWp.condB (by simp only [go_sem, seval]; rfl) (by simp only [go_sem, seval]) (fun h9 => ?_) (fun h9 => ?_)
  · refine AWp.skip ?_
    refine AWp.seq ?_
    refine AWp.block ?_
    refine AWp.seq ?_
    refine AWp.rgn [] (by simp only [go_sem, seval]; rfl) ?_ ?_
    · (first | trivial | (simp; done) | (simp at h9; simp; omega))
    refine AWp.condB (by simp only [go_sem, seval]; rfl) (by simp only [go_sem, seval]) (fun h16 => ?_) (fun h16 => ?_)
    · refine AWp.seq ?_
      refine AWp.rgn [] (by simp only [go_sem, seval]; rfl) ?_ ?_
      · (first | trivial | (simp; done) | (simp at h9; simp; omega))
      refine AWp.ret (And.intro (.inr rfl) ?_)
      exact Out.plain (by simp only [Tryz.results238]; rfl) (by simp only [resCs, resC, go_sem, seval] <;> (split <;> rfl)) (by simp only [resV, go_sem, seval] <;> (simp only [decide_eq_true_eq] at h9; rw [idxB_at c s k (by omega) hI.2 (byte_eq h16)])) (by simp only [go_sem, seval])
    · refine AWp.skip ?_
      refine AWp.rgn [] (by simp only [go_sem, seval]; rfl) ?_ ?_
      · (first | trivial | (simp; done) | (simp at h9; simp; omega))
      refine Exists.intro (k + 1) ⟨?_, ?_, ?_⟩
      · simp only [decide_eq_true_eq] at h9; exact ⟨by omega, mem_take (by omega) hI.2 (byte_ne h16)⟩
      · simp at h9; omega
      exact Can.weak (Weak.lit (by simp only [go_sem, seval, subM, leV, inns, innr, V.inn, us, true_or, or_true] <;> (rw [wrap64 (by simp at h9; omega) (by simp at h9; omega)]; simp)) (by simp only [go_sem, seval, subM, leV, inns, innr, V.inn, us, true_or, or_true]) (by simp only [go_sem, seval, subM, leV, inns, innr, V.inn, us, true_or, or_true]))
  · refine AWp.exit ?_
    refine AWp.seq ?_
    refine AWp.rgn [] (by simp only [go_sem, seval]; rfl) ?_ ?_
    · (first | trivial | (simp; done) | (simp at h9; simp; omega))
    refine AWp.ret (And.intro (.inr rfl) ?_)
    exact Out.plain (by simp only [Tryz.results238]; rfl) (by simp only [resCs, resC, go_sem, seval] <;> (split <;> rfl)) (by simp only [resV, go_sem, seval] <;> (simp only [decide_eq_false_iff_not] at h9; have h2 := hI.2; rw [List.take_of_length_le (by omega)] at h2; rw [idxB_no c s h2])) (by simp only [go_sem, seval])
end

section
set_option maxRecDepth 100000
set_option maxHeartbeats 4000000

def klass (c : UInt8) : Int := if lower c then 1 else if digit c then 2 else if marks.contains c then 3 else if c = 32 then 4 else 0
theorem l3Class_a (c : UInt8) : ACall En 219 [.i .u8 c.toNat] [] [.i .i64 (klass c)] [] := by
  have hf : decide (Lib.indexByte marks c ≥ 0) = marks.contains c := contains_idx marks c
  have h1 : (decide ((c.toNat : Int) ≥ 97) && decide ((c.toNat : Int) ≤ 122)) = lower c := rfl
  have h2 : (decide ((c.toNat : Int) ≥ 48) && decide ((c.toNat : Int) ≤ 57)) = digit c := rfl
  refine acall_of_body (fn := Tryz.f219) [] Tryz.func219 rfl rfl (by simp) fun C => ?_
  rw [entry_eq]
  simp only [Tryz.ntmps219, List.length_cons, List.length_nil, Nat.reduceAdd, Nat.reduceSub, List.replicate_succ, List.replicate_zero, List.cons_append, List.nil_append, numL]
  refine AWp.seq ?_
  refine AWp.rgn [] (by simp only [go_sem, seval]; rfl) ?_ ?_
  · (first | trivial | (simp; done) | (intro h; rw [h]; rfl))
  refine AWp.seq ?_
  refine AWp.block ?_
  refine AWp.seq ?_
  refine AWp.rgn [] (by simp only [go_sem, seval]; rfl) ?_ ?_
  · (first | trivial | (simp; done) | (intro h; rw [h]; rfl))
  refine AWp.condB (by simp only [go_sem, seval]; rfl) (by simp only [go_sem, seval]) (fun h3 => ?_) (fun h3 => ?_)
  · refine AWp.seq ?_
    refine AWp.rgn [] (by simp only [go_sem, seval]; rfl) ?_ ?_
    · (first | trivial | (simp; done) | (intro h; rw [h]; rfl))
    refine AWp.ret (And.intro (.inr rfl) ?_)
    exact Out.plain (by simp only [Tryz.results219]; rfl) (by simp only [resCs, resC, go_sem, seval] <;> (split <;> rfl)) (by simp only [resV, go_sem, seval] <;> (rw [h1] at h3; unfold klass; rw [if_pos h3])) (by simp only [go_sem, seval])
  · refine AWp.seq ?_
    refine AWp.rgn [] (by simp only [go_sem, seval]; rfl) ?_ ?_
    · (first | trivial | (simp; done) | (intro h; rw [h]; rfl))
    refine AWp.condB (by simp only [go_sem, seval]; rfl) (by simp only [go_sem, seval]) (fun h10 => ?_) (fun h10 => ?_)
    · refine AWp.seq ?_
      refine AWp.rgn [] (by simp only [go_sem, seval]; rfl) ?_ ?_
      · (first | trivial | (simp; done) | (intro h; rw [h]; rfl))
      refine AWp.ret (And.intro (.inr rfl) ?_)
      exact Out.plain (by simp only [Tryz.results219]; rfl) (by simp only [resCs, resC, go_sem, seval] <;> (split <;> rfl)) (by simp only [resV, go_sem, seval] <;> (rw [h1] at h3; rw [h2] at h10; unfold klass; rw [if_neg (by simp [h3]), if_pos h10])) (by simp only [go_sem, seval])
    · refine AWp.seq ?_
      refine AWp.rgn [call0 l3Marks_a, call0 (l12Find_a marks c (by decide))] (by simp only [go_sem, seval]; rfl) ?_ ?_
      · (first | trivial | (simp; done) | (intro h; rw [h]; rfl))
      refine AWp.condB (by simp only [go_sem, seval]; rfl) (by simp only [go_sem, seval]) (fun h17 => ?_) (fun h17 => ?_)
      · refine AWp.seq ?_
        refine AWp.rgn [] (by simp only [go_sem, seval]; rfl) ?_ ?_
        · (first | trivial | (simp; done) | (intro h; rw [h]; rfl))
        refine AWp.ret (And.intro (.inr rfl) ?_)
        exact Out.plain (by simp only [Tryz.results219]; rfl) (by simp only [resCs, resC, go_sem, seval] <;> (split <;> rfl)) (by simp only [resV, go_sem, seval] <;> (rw [h1] at h3; rw [h2] at h10; rw [hf] at h17; unfold klass; rw [if_neg (by simp [h3]), if_neg (by simp [h10]), if_pos h17])) (by simp only [go_sem, seval])
      · refine AWp.seq ?_
        refine AWp.rgn [] (by simp only [go_sem, seval]; rfl) ?_ ?_
        · (first | trivial | (simp; done) | (intro h; rw [h]; rfl))
        refine AWp.condB (by simp only [go_sem, seval]; rfl) (by simp only [go_sem, seval]) (fun h22 => ?_) (fun h22 => ?_)
        · refine AWp.seq ?_
          refine AWp.rgn [] (by simp only [go_sem, seval]; rfl) ?_ ?_
          · (first | trivial | (simp; done) | (intro h; rw [h]; rfl))
          refine AWp.ret (And.intro (.inr rfl) ?_)
          exact Out.plain (by simp only [Tryz.results219]; rfl) (by simp only [resCs, resC, go_sem, seval] <;> (split <;> rfl)) (by simp only [resV, go_sem, seval] <;> (rw [h1] at h3; rw [h2] at h10; rw [hf] at h17; unfold klass; rw [if_neg (by simp [h3]), if_neg (by simp [h10]), if_neg (by rw [h17]; decide), if_pos (by apply UInt8.toNat_inj.1; show _ = 32; simp at h22; omega)])) (by simp only [go_sem, seval])
        · refine AWp.skip ?_
          refine AWp.seq ?_
          refine AWp.rgn [] (by simp only [go_sem, seval]; rfl) ?_ ?_
          · (first | trivial | (simp; done) | (intro h; rw [h]; rfl))
          refine AWp.ret (And.intro (.inr rfl) ?_)
          exact Out.plain (by simp only [Tryz.results219]; rfl) (by simp only [resCs, resC, go_sem, seval] <;> (split <;> rfl)) (by simp only [resV, go_sem, seval] <;> (rw [h1] at h3; rw [h2] at h10; rw [hf] at h17; unfold klass; rw [if_neg (by simp [h3]), if_neg (by simp [h10]), if_neg (by rw [h17]; decide), if_neg (by rintro rfl; simp at h22)])) (by simp only [go_sem, seval])
def exC (c : UInt8) (l : Str) : Nat := if klass c < 3 then (l.takeWhile fun x => klass x == klass c).length else 0
def clsEnd (l : Str) : Nat := match l with | [] => 1 | c :: r => 1 + exC c r
theorem drop_at {s : Str} {k : Nat} (h : k < s.length) : s.drop k = s.getD k 0 :: s.drop (k + 1) := by
  rw [List.drop_eq_getElem_cons h, List.getD_eq_getElem?_getD, List.getElem?_eq_getElem h]; rfl
theorem exC_le (c : UInt8) (l : Str) : exC c l ≤ l.length := by
  unfold exC; split
  · exact (List.takeWhile_prefix _).length_le
  · omega
theorem end_le {s : Str} {k : Nat} (h : k < s.length) : 1 ≤ clsEnd (s.drop k) ∧ k + clsEnd (s.drop k) ≤ s.length := by
  rw [drop_at h, clsEnd]
  have := exC_le (s.getD k 0) (s.drop (k + 1))
  rw [List.length_drop] at this
  omega
theorem exC_go {c : UInt8} {s : Str} {j : Nat} (h : j < s.length) (h1 : klass c < 3) (h2 : klass (s.getD j 0) = klass c) : exC c (s.drop j) = 1 + exC c (s.drop (j + 1)) := by
  unfold exC
  rw [if_pos h1, if_pos h1, drop_at h, List.takeWhile_cons, if_pos (by rw [h2]; exact beq_self_eq_true _)]
  simp; omega
theorem exC_stop {c : UInt8} {s : Str} {j : Nat} (h : ¬ (j < s.length ∧ klass c < 3 ∧ klass (s.getD j 0) = klass c)) : exC c (s.drop j) = 0 := by
  unfold exC
  split
  · rename_i h1
    rcases Nat.lt_or_ge j s.length with q | q
    · rw [drop_at q, List.takeWhile_cons, if_neg (by simp; exact fun e => h ⟨q, h1, e⟩)]; rfl
    · rw [List.drop_of_length_le q]; rfl
  · rfl
theorem l3End_a (s : Str) (k : Nat) (hk : k < s.length) (hs : s.length ≤ 1000000) : ACall En 188 [.s s, .i .i64 k] [] [.i .i64 ((k + clsEnd (s.drop k) : Nat) : Int)] [] := by
  have hE : clsEnd (s.drop k) = 1 + exC (s.getD k 0) (s.drop (k + 1)) := by rw [drop_at hk]; rfl
  refine acall_of_body (fn := Tryz.f188) [] Tryz.func188 rfl rfl (by simp) fun C => ?_
  rw [entry_eq]
  simp only [Tryz.ntmps188, List.length_cons, List.length_nil, Nat.reduceAdd, Nat.reduceSub, List.replicate_succ, List.replicate_zero, List.cons_append, List.nil_append, numL]
  refine AWp.seq ?_
  refine AWp.rgn [] (by simp only [go_sem, seval]; rfl) ?_ ?_
  · (first | trivial | (simp; done))
  refine AWp.seq ?_
  refine AWp.rgn [call0 (l3Class_a (s.getD k 0))] (by simp only [go_sem, seval]; rfl) ?_ ?_
  · exact ⟨by omega, by omega⟩
  refine AWp.seq ?_
  refine AWp.rgn [] (by simp only [go_sem, seval]; rfl) ?_ ?_
  · (first | trivial | (simp; done))
  refine AWp.seq ?_
  refine AWp.block ?_
  refine AWp.loopK (fun j : Nat => ⟨[.s s, .no, .no, .no, .no, .i .i64 (klass (s.getD k 0)), .i .i64 j, .no, .no, .no, .no, .no, .no, .no, .no, .no, .no, .no, .no, .no, .no, .no, .no, .no, .no, .no, .no, .no, .no, .no, .no, .no], memOf [], us []⟩) (fun j : Nat => k + 1 ≤ j ∧ j ≤ s.length ∧ k + 1 + exC (s.getD k 0) (s.drop (k + 1)) = j + exC (s.getD k 0) (s.drop j)) (fun j : Nat => s.length - j) (k + 1) ?_ ?_ (fun j hI => ?_)
  · exact ⟨Nat.le_refl _, hk, rfl⟩
  · exact Can.weak (Weak.lit (by simp only [go_sem, seval, subM, leV, inns, innr, V.inn, us, true_or, or_true] <;> (rw [wrap64 (by omega) (by omega)]; simp)) (by simp only [go_sem, seval, subM, leV, inns, innr, V.inn, us, true_or, or_true]) (by simp only [go_sem, seval, subM, leV, inns, innr, V.inn, us, true_or, or_true]))
  refine AWp.seq ?_
  refine AWp.seq ?_
  refine AWp.rgn [callI (j < s.length) (fun _ => l3Class_a (s.getD j 0))] (by simp only [go_sem, seval]; rfl) ?_ ?_
  · exact ⟨fun h => ⟨h, by omega, by rw [Bool.and_eq_true] at h; exact of_decide_eq_true h.1⟩, fun h => ⟨h, by rw [Bool.and_eq_true] at h; have h0 := of_decide_eq_true h.1; omega⟩⟩
  refine AWp.condB (by simp only [go_sem, seval]; rfl) (by simp only [go_sem, seval]) (fun h28 => ?_) (fun h28 => ?_)
  · refine AWp.skip ?_
    refine AWp.block ?_
    refine AWp.rgn [] (by simp only [go_sem, seval]; rfl) ?_ ?_
    · (first | trivial | (simp; done))
    refine Exists.intro (j + 1) ⟨?_, ?_, ?_⟩
    · rw [Bool.and_eq_true, Bool.and_eq_true] at h28; have a := of_decide_eq_true h28.1.1; have b := of_decide_eq_true h28.1.2; have c := beq_iff_eq.1 h28.2; have e := exC_go (show j < s.length by omega) b c; exact ⟨by omega, by omega, by omega⟩
    · rw [Bool.and_eq_true, Bool.and_eq_true] at h28; have a := of_decide_eq_true h28.1.1; omega
    exact Can.weak (Weak.lit (by simp only [go_sem, seval, subM, leV, inns, innr, V.inn, us, true_or, or_true] <;> (rw [wrap64 (by omega) (by omega)]; simp)) (by simp only [go_sem, seval, subM, leV, inns, innr, V.inn, us, true_or, or_true]) (by simp only [go_sem, seval, subM, leV, inns, innr, V.inn, us, true_or, or_true]))
  · refine AWp.exit ?_
    refine AWp.seq ?_
    refine AWp.rgn [] (by simp only [go_sem, seval]; rfl) ?_ ?_
    · (first | trivial | (simp; done))
    refine AWp.ret (And.intro (.inr rfl) ?_)
    exact Out.plain (by simp only [Tryz.results188]; rfl) (by simp only [resCs, resC, go_sem, seval] <;> (split <;> rfl)) (by simp only [resV, go_sem, seval] <;> ((have e := exC_stop (c := s.getD k 0) (s := s) (j := j) (fun q => by rw [decide_eq_true (show (j : Int) < s.length by omega), decide_eq_true q.2.1, q.2.2] at h28; simp at h28)); rw [hE, show k + (1 + exC (s.getD k 0) (s.drop (k + 1))) = j by omega])) (by simp only [go_sem, seval])
theorem l3Mark_eq (s : Str) : (((s.length : Int) == 1) && decide (Lib.indexByte marks (s.getD 0 0) ≥ 0)) = isMark s := by
  unfold isMark
  rw [show decide (Lib.indexByte marks (s.getD 0 0) ≥ 0) = marks.contains (s.getD 0 0) from contains_idx marks _]
  congr 1
  · rw [Bool.eq_iff_iff]; simp; omega
  · cases s <;> rfl
def tokOkP (k : Int) (s : Str) : Bool := if k = 1 then isWord s else if k = 2 then numOk s else if k = 3 then isMark s else false
theorem sTokOk_a (k : Int) (s : Str) (hs : s.length ≤ 281474976710656) : ACall En 220 [.i .i64 k, .s s] [] [.b (tokOkP k s)] [] := by
  refine acall_of_body (fn := Tryz.f220) [] Tryz.func220 rfl rfl (by simp) fun C => ?_
  rw [entry_eq]
  simp only [Tryz.ntmps220, List.length_cons, List.length_nil, Nat.reduceAdd, Nat.reduceSub, List.replicate_succ, List.replicate_zero, List.cons_append, List.nil_append, numL]
  refine AWp.seq ?_
  refine AWp.rgn [] (by simp only [go_sem, seval]; rfl) ?_ ?_
  · (first | trivial | (simp; done))
  refine AWp.seq ?_
  refine AWp.seq ?_
  refine AWp.rgn [] (by simp only [go_sem, seval]; rfl) ?_ ?_
  · (first | trivial | (simp; done))
  refine AWp.block ?_
  refine AWp.seq ?_
  refine AWp.rgn [] (by simp only [go_sem, seval]; rfl) ?_ ?_
  · (first | trivial | (simp; done))
  refine AWp.condB (by simp only [go_sem, seval]; rfl) (by simp only [go_sem, seval]) (fun h6 => ?_) (fun h6 => ?_)
  · refine AWp.seq ?_
    refine AWp.rgn [call0 (l3Word_a s (by omega))] (by simp only [go_sem, seval]; rfl) ?_ ?_
    · (first | trivial | (simp; done))
    refine AWp.ret (And.intro (.inr rfl) ?_)
    exact Out.plain (by simp only [Tryz.results220]; rfl) (by simp only [resCs, resC, go_sem, seval] <;> (split <;> rfl)) (by simp only [resV, go_sem, seval] <;> (simp at h6; simp [tokOkP, h6])) (by simp only [go_sem, seval])
  · refine AWp.seq ?_
    refine AWp.rgn [] (by simp only [go_sem, seval]; rfl) ?_ ?_
    · (first | trivial | (simp; done))
    refine AWp.condB (by simp only [go_sem, seval]; rfl) (by simp only [go_sem, seval]) (fun h10 => ?_) (fun h10 => ?_)
    · refine AWp.seq ?_
      refine AWp.rgn [call0 (l3Num_a s hs)] (by simp only [go_sem, seval]; rfl) ?_ ?_
      · (first | trivial | (simp; done))
      refine AWp.ret (And.intro (.inr rfl) ?_)
      exact Out.plain (by simp only [Tryz.results220]; rfl) (by simp only [resCs, resC, go_sem, seval] <;> (split <;> rfl)) (by simp only [resV, go_sem, seval] <;> (simp at h6 h10; simp [tokOkP, h10])) (by simp only [go_sem, seval])
    · refine AWp.seq ?_
      refine AWp.rgn [] (by simp only [go_sem, seval]; rfl) ?_ ?_
      · (first | trivial | (simp; done))
      refine AWp.condB (by simp only [go_sem, seval]; rfl) (by simp only [go_sem, seval]) (fun h14 => ?_) (fun h14 => ?_)
      · refine AWp.seq ?_
        refine AWp.rgnD [call0 l3Marks_a, callI (0 < s.length) (fun _ => l12Find_a marks (s.getD 0 0) (by decide))] enM (by simp only [go_sem, seval]; rfl) (by rfl) ?_ ?_
        · exact ⟨fun h => ⟨h, by have := beq_iff_eq.1 h; omega⟩, fun h => ⟨h, by have := beq_iff_eq.1 h; omega⟩⟩
        refine AWp.ret (And.intro (.inr rfl) ?_)
        exact Out.plain (by simp only [Tryz.results220]; rfl) (by simp only [resCs, resC, go_sem, seval] <;> (split <;> rfl)) (by simp only [resV, go_sem, seval] <;> (simp at h6 h10 h14; simp [tokOkP, h14]; rw [← l3Mark_eq]; simp)) (by simp only [go_sem, seval])
      · refine AWp.skip ?_
        refine AWp.seq ?_
        refine AWp.rgn [] (by simp only [go_sem, seval]; rfl) ?_ ?_
        · (first | trivial | (simp; done))
        refine AWp.ret (And.intro (.inr rfl) ?_)
        exact Out.plain (by simp only [Tryz.results220]; rfl) (by simp only [resCs, resC, go_sem, seval] <;> (split <;> rfl)) (by simp only [resV, go_sem, seval] <;> (simp at h6 h10 h14; simp [tokOkP, h6, h10, h14])) (by simp only [go_sem, seval])
theorem sTokKind_a (s : Str) (hs : s.length ≤ 281474976710656) : ACall En 189 [.s s] [] [.i .i64 (tkKind s)] [] := by
  refine acall_of_body (fn := Tryz.f189) [] Tryz.func189 rfl rfl (by simp) fun C => ?_
  rw [entry_eq]
  simp only [Tryz.ntmps189, List.length_cons, List.length_nil, Nat.reduceAdd, Nat.reduceSub, List.replicate_succ, List.replicate_zero, List.cons_append, List.nil_append, numL]
  refine AWp.seq ?_
  refine AWp.rgn [] (by simp only [go_sem, seval]; rfl) ?_ ?_
  · (first | trivial | (simp; done))
  refine AWp.seq ?_
  refine AWp.seq ?_
  refine AWp.rgn [] (by simp only [go_sem, seval]; rfl) ?_ ?_
  · (first | trivial | (simp; done))
  refine AWp.block ?_
  refine AWp.loopK (fun k : Nat => ⟨[.s s, .no, .no, .i .i64 k, .no, .no, .no, .no, .no, .no, .no, .no], memOf [], us []⟩) (fun k : Nat => 1 ≤ k ∧ k ≤ 4 ∧ (2 ≤ k → isWord s = false) ∧ (3 ≤ k → numOk s = false) ∧ (4 ≤ k → isMark s = false)) (fun k : Nat => 4 - k) (1) ?_ ?_ (fun k hI => ?_)
  · exact ⟨by decide, by decide, fun h => by omega, fun h => by omega, fun h => by omega⟩
  · exact Can.weak (Weak.lit (by simp only [go_sem, seval, subM, leV, inns, innr, V.inn, us, true_or, or_true] <;> (rfl)) (by simp only [go_sem, seval, subM, leV, inns, innr, V.inn, us, true_or, or_true]) (by simp only [go_sem, seval, subM, leV, inns, innr, V.inn, us, true_or, or_true]))
  refine AWp.seq ?_
  refine AWp.seq ?_
  refine AWp.rgn [] (by simp only [go_sem, seval]; rfl) ?_ ?_
  · (first | trivial | (simp; done))
  refine AWp.condB (by simp only [go_sem, seval]; rfl) (by simp only [go_sem, seval]) (fun h5 => ?_) (fun h5 => ?_)
  · refine AWp.skip ?_
    refine AWp.seq ?_
    refine AWp.block ?_
    refine AWp.seq ?_
    refine AWp.rgn [call0 (sTokOk_a k s hs)] (by simp only [go_sem, seval]; rfl) ?_ ?_
    · (first | trivial | (simp; done))
    refine AWp.condB (by simp only [go_sem, seval]; rfl) (by simp only [go_sem, seval]) (fun h10 => ?_) (fun h10 => ?_)
    · refine AWp.seq ?_
      refine AWp.rgn [] (by simp only [go_sem, seval]; rfl) ?_ ?_
      · (first | trivial | (simp; done))
      refine AWp.ret (And.intro (.inr rfl) ?_)
      exact Out.plain (by simp only [Tryz.results189]; rfl) (by simp only [resCs, resC, go_sem, seval] <;> (split <;> rfl)) (by simp only [resV, go_sem, seval] <;> (simp only [decide_eq_true_eq] at h5; unfold tkKind; rcases (show k = 1 ∨ k = 2 ∨ k = 3 by omega) with e | e | e <;> subst e <;> simp [tokOkP] at h10; (simp [h10]); (simp [h10, hI.2.2.1 (by omega)]); (simp [h10, hI.2.2.1 (by omega), hI.2.2.2.1 (by omega)]))) (by simp only [go_sem, seval])
    · refine AWp.skip ?_
      refine AWp.rgn [] (by simp only [go_sem, seval]; rfl) ?_ ?_
      · (first | trivial | (simp; done))
      refine Exists.intro (k + 1) ⟨?_, ?_, ?_⟩
      · simp only [decide_eq_true_eq] at h5; rcases (show k = 1 ∨ k = 2 ∨ k = 3 by omega) with e | e | e <;> subst e <;> simp [tokOkP] at h10; exact ⟨by omega, by omega, fun _ => h10, fun h => by omega, fun h => by omega⟩; exact ⟨by omega, by omega, fun _ => hI.2.2.1 (by omega), fun _ => h10, fun h => by omega⟩; exact ⟨by omega, by omega, fun _ => hI.2.2.1 (by omega), fun _ => hI.2.2.2.1 (by omega), fun _ => h10⟩
      · simp at h5; omega
      exact Can.weak (Weak.lit (by simp only [go_sem, seval, subM, leV, inns, innr, V.inn, us, true_or, or_true] <;> (rw [wrap64 (by omega) (by omega)]; simp)) (by simp only [go_sem, seval, subM, leV, inns, innr, V.inn, us, true_or, or_true]) (by simp only [go_sem, seval, subM, leV, inns, innr, V.inn, us, true_or, or_true]))
  · refine AWp.exit ?_
    refine AWp.seq ?_
    refine AWp.rgn [] (by simp only [go_sem, seval]; rfl) ?_ ?_
    · (first | trivial | (simp; done))
    refine AWp.ret (And.intro (.inr rfl) ?_)
    exact Out.plain (by simp only [Tryz.results189]; rfl) (by simp only [resCs, resC, go_sem, seval] <;> (split <;> rfl)) (by simp only [resV, go_sem, seval] <;> (simp only [decide_eq_false_iff_not] at h5; unfold tkKind; simp [hI.2.2.1 (by omega), hI.2.2.2.1 (by omega), hI.2.2.2.2 (by omega)])) (by simp only [go_sem, seval])
theorem klass_lower {c : UInt8} : (klass c == 1) = lower c := by
  unfold klass
  cases h : lower c with
  | true => rfl
  | false => simp only [Bool.false_eq_true, if_false]; split <;> (try split) <;> (try split) <;> rfl
theorem klass_digit {c : UInt8} : (klass c == 2) = digit c := by
  unfold klass
  cases h : lower c with
  | true => rw [lower_not_digit h]; rfl
  | false =>
    simp only [Bool.false_eq_true, if_false]
    cases digit c with
    | true => rfl
    | false => simp only [Bool.false_eq_true, if_false]; split <;> (try split) <;> rfl
theorem end_wlen {c : UInt8} {l : Str} (h : klass c ≠ 0) (h4 : c ≠ 32) : clsEnd (c :: l) = wlen (c :: l) := by
  show 1 + (if klass c < 3 then (l.takeWhile fun x => klass x == klass c).length else 0) = max 1 (max ((c :: l).takeWhile lower).length ((c :: l).takeWhile digit).length)
  cases hl : lower c with
  | true =>
    have e : klass c = 1 := by unfold klass; rw [if_pos hl]
    rw [e, if_pos (by decide), tw_not (lower_not_digit hl), List.takeWhile_cons, if_pos hl]
    have : (fun x => klass x == 1) = lower := funext fun x => klass_lower
    rw [this]; simp; omega
  | false =>
    rw [tw_not (p := lower) hl]
    cases hd : digit c with
    | true =>
      have e : klass c = 2 := by unfold klass; rw [if_neg (by simp [hl]), if_pos hd]
      rw [e, if_pos (by decide), List.takeWhile_cons, if_pos hd]
      have : (fun x => klass x == 2) = digit := funext fun x => klass_digit
      rw [this]; simp; omega
    | false =>
      rw [tw_not hd]
      have e : ¬ klass c < 3 := by
        unfold klass at h ⊢
        rw [if_neg (by simp [hl]), if_neg (by simp [hd])] at h ⊢
        split
        · decide
        · rename_i hm; rw [if_neg hm, if_neg h4] at h; exact absurd rfl h
      rw [if_neg e]; rfl
theorem kind_none {c : UInt8} {l : Str} (h : klass c = 0) : tkKind (c :: l) = 0 := by
  unfold klass at h
  have hl : lower c = false := by
    cases q : lower c with
    | true => rw [q] at h; simp at h
    | false => rfl
  have hd : digit c = false := by
    cases q : digit c with
    | true => rw [hl, q] at h; simp at h
    | false => rfl
  have hm : marks.contains c = false := by
    cases q : marks.contains c with
    | true => rw [hl, hd, q] at h; simp at h
    | false => rfl
  unfold tkKind
  rw [if_neg, if_neg, if_neg]
  · intro q; simp only [isMark, Bool.and_eq_true, List.headD_cons] at q; rw [hm] at q; exact absurd q.2 (by decide)
  · intro q
    obtain ⟨n, _, e⟩ := numOk_iff.1 q
    have := (digit_iff c).2 (decDigits_dig n c (by rw [← e]; simp))
    rw [hd] at this; cases this
  · intro q; simp [isWord, hl] at q
theorem toks_ref {l : Str} {k : Nat} (h : k < l.length) (col : Int) : toks (l.drop k).length (l.drop k) col =
    if l.getD k 0 = 32 then toks (l.drop (k + clsEnd (l.drop k))).length (l.drop (k + clsEnd (l.drop k))) (col + clsEnd (l.drop k))
    else if tkKind ((l.drop k).take (clsEnd (l.drop k))) = 0 then none
    else (toks (l.drop (k + clsEnd (l.drop k))).length (l.drop (k + clsEnd (l.drop k))) (col + clsEnd (l.drop k))).map (⟨tkKind ((l.drop k).take (clsEnd (l.drop k))), (l.drop k).take (clsEnd (l.drop k)), col⟩ :: ·) := by
  rw [toks_at h]
  have hd := drop_at h
  by_cases h32 : l.getD k 0 = 32
  · have e : clsEnd (l.drop k) = 1 := by
      rw [hd, clsEnd, h32]; rfl
    rw [if_pos h32, if_pos h32, e]; rfl
  · rw [if_neg h32, if_neg h32]
    by_cases h0 : klass (l.getD k 0) = 0
    · have p : ∀ m, 1 ≤ m → tkKind ((l.drop k).take m) = 0 := fun m hm => by
        rw [hd]
        obtain ⟨m', rfl⟩ : ∃ m', m = m' + 1 := ⟨m - 1, by omega⟩
        rw [List.take_succ_cons]; exact kind_none h0
      rw [if_pos (p _ (wl_b h).1), if_pos (p _ (end_le h).1)]
    · have e : clsEnd (l.drop k) = wlen (l.drop k) := by rw [hd]; exact end_wlen h0 h32
      rw [e]
theorem sTokLine_a (s : Str) (hs : s.length ≤ 281474976710656) : ACall En 145 [.s s] [] [.sl false (tkR ((tokLine s).getD [])), .b (tokLine s).isSome] [] := by
  refine acall_of_body (fn := Tryz.f145) [] Tryz.func145 rfl rfl (by simp) fun C => ?_
  rw [entry_eq]
  simp only [Tryz.ntmps145, List.length_cons, List.length_nil, Nat.reduceAdd, Nat.reduceSub, List.replicate_succ, List.replicate_zero, List.cons_append, List.nil_append, numL]
  refine AWp.seq ?_
  refine AWp.rgn [] (by simp only [go_sem, seval, tkR_pure, tkR_len]; rfl) ?_ ?_
  · (first | trivial | (simp; done) | (simp only [decide_eq_true_eq] at h16; have he := end_le (show q.1 < s.length by omega); first | exact ⟨by omega, hI.2.1⟩ | exact ⟨by omega, by omega⟩ | (refine ⟨by omega, by omega, by omega, by omega, by simp⟩) | (refine ⟨⟨⟨by omega, by omega, by omega, by omega, by simp⟩, rfl⟩, ?_⟩; simp; omega)))
  refine AWp.seq ?_
  refine AWp.rgn [] (by simp only [go_sem, seval, tkR_pure, tkR_len]; rfl) ?_ ?_
  · (first | trivial | (simp; done) | (simp only [decide_eq_true_eq] at h16; have he := end_le (show q.1 < s.length by omega); first | exact ⟨by omega, hI.2.1⟩ | exact ⟨by omega, by omega⟩ | (refine ⟨by omega, by omega, by omega, by omega, by simp⟩) | (refine ⟨⟨⟨by omega, by omega, by omega, by omega, by simp⟩, rfl⟩, ?_⟩; simp; omega)))
  refine AWp.seq ?_
  refine AWp.seq ?_
  refine AWp.rgn [] (by simp only [go_sem, seval, tkR_pure, tkR_len]; rfl) ?_ ?_
  · (first | trivial | (simp; done) | (simp only [decide_eq_true_eq] at h16; have he := end_le (show q.1 < s.length by omega); first | exact ⟨by omega, hI.2.1⟩ | exact ⟨by omega, by omega⟩ | (refine ⟨by omega, by omega, by omega, by omega, by simp⟩) | (refine ⟨⟨⟨by omega, by omega, by omega, by omega, by simp⟩, rfl⟩, ?_⟩; simp; omega)))
  refine AWp.condB (by simp only [go_sem, seval, tkR_pure, tkR_len]; rfl) (by simp only [go_sem, seval, tkR_pure, tkR_len]) (fun h11 => ?_) (fun h11 => ?_)
  · refine AWp.seq ?_
    refine AWp.rgn [] (by simp only [go_sem, seval, tkR_pure, tkR_len]; rfl) ?_ ?_
    · (first | trivial | (simp; done) | (simp only [decide_eq_true_eq] at h16; have he := end_le (show q.1 < s.length by omega); first | exact ⟨by omega, hI.2.1⟩ | exact ⟨by omega, by omega⟩ | (refine ⟨by omega, by omega, by omega, by omega, by simp⟩) | (refine ⟨⟨⟨by omega, by omega, by omega, by omega, by simp⟩, rfl⟩, ?_⟩; simp; omega)))
    refine AWp.ret (And.intro (.inr rfl) ?_)
    exact Out.plainL (by simp only [Tryz.results145]; rfl) (by simp only [resCs, resC, go_sem, seval, tkR_pure, tkR_len] <;> (split <;> rfl)) (by simp only [resV, go_sem, seval, tkR_pure, tkR_len] <;> (simp only [decide_eq_true_eq] at h11; rw [tokLine_none (by omega)]; simp [tkR, ler])) (by simp only [go_sem, seval, tkR_pure, tkR_len])
  · refine AWp.skip ?_
    refine AWp.seq ?_
    refine AWp.rgn [] (by simp only [go_sem, seval, tkR_pure, tkR_len]; rfl) ?_ ?_
    · (first | trivial | (simp; done) | (simp only [decide_eq_true_eq] at h16; have he := end_le (show q.1 < s.length by omega); first | exact ⟨by omega, hI.2.1⟩ | exact ⟨by omega, by omega⟩ | (refine ⟨by omega, by omega, by omega, by omega, by simp⟩) | (refine ⟨⟨⟨by omega, by omega, by omega, by omega, by simp⟩, rfl⟩, ?_⟩; simp; omega)))
    refine AWp.seq ?_
    refine AWp.block ?_
    refine AWp.loopK (fun q : Nat × List Tk => ⟨[.s s, .no, .no, .no, .ow 60 3 0 q.2.length, .i .i64 q.1, .no, .no, .no, .no, .no, .no, .no, .no, .no, .no, .no, .no, .no, .no, .no, .no, .no, .no, .no, .no, .no, .no, .no, .no, .no, .no, .no, .no, .no, .no, .no, .no, .no, .no, .no, .no, .no, .no], memOf [(60, ⟨56, 3, tkR q.2⟩)], us [60]⟩) (fun q : Nat × List Tk => q.1 ≤ s.length ∧ s.length ≤ 120 ∧ q.2.length ≤ q.1 ∧ toks s.length s 0 = (toks (s.drop q.1).length (s.drop q.1) q.1).map (q.2 ++ ·)) (fun q : Nat × List Tk => s.length - q.1) ((0, [])) ?_ ?_ (fun q hI => ?_)
    · simp at h11; simp; omega
    · refine Can.trans (Can.ownSlot 4 60 56 3 (by simp only [go_sem, seval, tkR_pure, tkR_len] <;> rfl) (by simp only [go_sem, seval, tkR_pure, tkR_len]) (by simp only [go_sem, seval, tkR_pure, tkR_len] <;> rfl)) ?_
      exact Can.weak (Weak.lit (by simp only [go_sem, seval, tkR_pure, tkR_len, subM, leV, inns, innr, V.inn, us, true_or, or_true] <;> ((try simp))) (by simp only [go_sem, seval, tkR_pure, tkR_len, subM, leV, inns, innr, V.inn, us, true_or, or_true]) (by simp only [go_sem, seval, tkR_pure, tkR_len, subM, leV, inns, innr, V.inn, us, true_or, or_true] <;> (simp [tkR])))
    refine AWp.seq ?_
    refine AWp.seq ?_
    refine AWp.rgn [] (by simp only [go_sem, seval, tkR_pure, tkR_len]; rfl) ?_ ?_
    · (first | trivial | (simp; done) | (simp only [decide_eq_true_eq] at h16; have he := end_le (show q.1 < s.length by omega); first | exact ⟨by omega, hI.2.1⟩ | exact ⟨by omega, by omega⟩ | (refine ⟨by omega, by omega, by omega, by omega, by simp⟩) | (refine ⟨⟨⟨by omega, by omega, by omega, by omega, by simp⟩, rfl⟩, ?_⟩; simp; omega)))
    refine AWp.condB (by simp only [go_sem, seval, tkR_pure, tkR_len]; rfl) (by simp only [go_sem, seval, tkR_pure, tkR_len]) (fun h16 => ?_) (fun h16 => ?_)
    · refine AWp.skip ?_
      refine AWp.block ?_
      refine AWp.seq ?_
      refine AWp.rgn [callI (q.1 < s.length ∧ s.length ≤ 120) (fun h => l3End_a s q.1 h.1 (by omega))] (by simp only [go_sem, seval, tkR_pure, tkR_len]; rfl) ?_ ?_
      · (first | trivial | (simp; done) | (simp only [decide_eq_true_eq] at h16; have he := end_le (show q.1 < s.length by omega); first | exact ⟨by omega, hI.2.1⟩ | exact ⟨by omega, by omega⟩ | (refine ⟨by omega, by omega, by omega, by omega, by simp⟩) | (refine ⟨⟨⟨by omega, by omega, by omega, by omega, by simp⟩, rfl⟩, ?_⟩; simp; omega)))
      refine AWp.seqJ (fun p : List Tk => ⟨[.s s, .no, .no, .no, .ow 60 3 0 p.length, .no, .i .i64 ((q.1 + clsEnd (s.drop q.1) : Nat) : Int), .no, .no, .no, .no, .no, .no, .no, .no, .no, .no, .no, .no, .no, .no, .no, .no, .no, .no, .no, .no, .no, .no, .no, .no, .no, .no, .no, .no, .no, .no, .no, .no, .no, .no, .no, .no, .no], memOf [(60, ⟨56, 3, tkR p⟩)], us [60]⟩) (fun p : List Tk => p.length ≤ q.1 + 1 ∧ toks s.length s 0 = (toks (s.drop (q.1 + clsEnd (s.drop q.1))).length (s.drop (q.1 + clsEnd (s.drop q.1))) ((q.1 + clsEnd (s.drop q.1) : Nat) : Int)).map (p ++ ·)) ?_ (fun p hJ => ?_)
      · refine AWp.seq ?_
        refine AWp.rgn [] (by simp only [go_sem, seval, tkR_pure, tkR_len]; rfl) ?_ ?_
        · (first | trivial | (simp; done) | (simp only [decide_eq_true_eq] at h16; have he := end_le (show q.1 < s.length by omega); first | exact ⟨by omega, hI.2.1⟩ | exact ⟨by omega, by omega⟩ | (refine ⟨by omega, by omega, by omega, by omega, by simp⟩) | (refine ⟨⟨⟨by omega, by omega, by omega, by omega, by simp⟩, rfl⟩, ?_⟩; simp; omega)))
        refine AWp.condB (by simp only [go_sem, seval, tkR_pure, tkR_len]; rfl) (by simp only [go_sem, seval, tkR_pure, tkR_len]) (fun h23 => ?_) (fun h23 => ?_)
        · refine AWp.seq ?_
          refine AWp.rgn [call0 (sTokKind_a ((s.drop q.1).take (clsEnd (s.drop q.1))) (by simp; omega))] (by simp only [go_sem, seval, tkR_pure, tkR_len, piece_eq]; rfl) ?_ ?_
          · (first | trivial | (simp; done) | (simp only [decide_eq_true_eq] at h16; have he := end_le (show q.1 < s.length by omega); first | exact ⟨by omega, hI.2.1⟩ | exact ⟨by omega, by omega⟩ | (refine ⟨by omega, by omega, by omega, by omega, by simp⟩) | (refine ⟨⟨⟨by omega, by omega, by omega, by omega, by simp⟩, rfl⟩, ?_⟩; simp; omega)))
          refine AWp.seq ?_
          refine AWp.seq ?_
          refine AWp.rgn [] (by simp only [go_sem, seval, tkR_pure, tkR_len]; rfl) ?_ ?_
          · (first | trivial | (simp; done) | (simp only [decide_eq_true_eq] at h16; have he := end_le (show q.1 < s.length by omega); first | exact ⟨by omega, hI.2.1⟩ | exact ⟨by omega, by omega⟩ | (refine ⟨by omega, by omega, by omega, by omega, by simp⟩) | (refine ⟨⟨⟨by omega, by omega, by omega, by omega, by simp⟩, rfl⟩, ?_⟩; simp; omega)))
          refine AWp.condB (by simp only [go_sem, seval, tkR_pure, tkR_len]; rfl) (by simp only [go_sem, seval, tkR_pure, tkR_len]) (fun h30 => ?_) (fun h30 => ?_)
          · refine AWp.seq ?_
            refine AWp.rgn [] (by simp only [go_sem, seval, tkR_pure, tkR_len]; rfl) ?_ ?_
            · (first | trivial | (simp; done) | (simp only [decide_eq_true_eq] at h16; have he := end_le (show q.1 < s.length by omega); first | exact ⟨by omega, hI.2.1⟩ | exact ⟨by omega, by omega⟩ | (refine ⟨by omega, by omega, by omega, by omega, by simp⟩) | (refine ⟨⟨⟨by omega, by omega, by omega, by omega, by simp⟩, rfl⟩, ?_⟩; simp; omega)))
            refine AWp.ret (And.intro (.inr rfl) ?_)
            exact Out.plainL (by simp only [Tryz.results145]; rfl) (by simp only [resCs, resC, go_sem, seval, tkR_pure, tkR_len] <;> (split <;> rfl)) (by simp only [resV, go_sem, seval, tkR_pure, tkR_len] <;> (simp only [decide_eq_true_eq] at h16; have e := toks_ref (show q.1 < s.length by omega) q.1; rw [if_neg (fun h => by have := (getB_lt (by omega)).1 h; rw [this] at h23; simp at h23), if_pos (by simpa using h30)] at e; rw [tokLine_some hI.2.1, hI.2.2.2, e]; simp [tkR, ler])) (by simp only [go_sem, seval, tkR_pure, tkR_len])
          · refine AWp.skip ?_
            refine AWp.rgn [] (by simp only [go_sem, seval, tkR_pure, tkR_len, piece_eq]; rfl) ?_ ?_
            · (first | trivial | (simp; done) | (simp only [decide_eq_true_eq] at h16; have he := end_le (show q.1 < s.length by omega); first | exact ⟨by omega, hI.2.1⟩ | exact ⟨by omega, by omega⟩ | (refine ⟨by omega, by omega, by omega, by omega, by simp⟩) | (refine ⟨⟨⟨by omega, by omega, by omega, by omega, by simp⟩, rfl⟩, ?_⟩; simp; omega)))
            refine Exists.intro (q.2 ++ [⟨tkKind ((s.drop q.1).take (clsEnd (s.drop q.1))), (s.drop q.1).take (clsEnd (s.drop q.1)), q.1⟩]) ⟨?_, ?_⟩
            · simp only [decide_eq_true_eq] at h16; obtain ⟨i1, i2, i3, i4⟩ := hI; have e := toks_ref (show q.1 < s.length by omega) q.1; first | (rw [if_neg (fun h => by have := (getB_lt (by omega)).1 h; rw [this] at h23; simp at h23), if_neg (by simpa using h30)] at e; exact ⟨by simp only [List.length_append, List.length_singleton]; omega, by rw [i4, e, Option.map_map]; simp [Function.comp_def]⟩) | (rw [if_pos ((getB_lt (by omega)).2 (by simpa using h23))] at e; exact ⟨by omega, by rw [i4, e]; rfl⟩)
            refine Can.trans (Can.swap 51 60 (by decide) (by decide) (by decide) (by decide) (by simp only [go_sem, seval, tkR_pure, tkR_len, V.cl]) (by simp only [go_sem, seval, tkR_pure, tkR_len, V.cl]) (by simp only [go_sem, seval, tkR_pure, tkR_len, swL_get, sw, swM, rnB] <;> rfl) (by simp only [go_sem, seval, tkR_pure, tkR_len, swL_get, sw, swM, rnB] <;> rfl) (by simp only [go_sem, seval, tkR_pure, tkR_len, swL_get, sw, swM, rnB] <;> rfl)) ?_
            exact Can.weak (Weak.lit (by simp only [go_sem, seval, tkR_pure, tkR_len, subM, leV, inns, innr, V.inn, us, true_or, or_true] <;> ((try simp))) (by simp only [go_sem, seval, tkR_pure, tkR_len, subM, leV, inns, innr, V.inn, us, true_or, or_true]) (by simp only [go_sem, seval, tkR_pure, tkR_len, subM, leV, inns, innr, V.inn, us, true_or, or_true] <;> ((try simp [tkR_snoc]))))
        · refine AWp.skip ?_
          refine Exists.intro (q.2) ⟨?_, ?_⟩
          · simp only [decide_eq_true_eq] at h16; obtain ⟨i1, i2, i3, i4⟩ := hI; have e := toks_ref (show q.1 < s.length by omega) q.1; first | (rw [if_neg (fun h => by have := (getB_lt (by omega)).1 h; rw [this] at h23; simp at h23), if_neg (by simpa using h30)] at e; exact ⟨by simp only [List.length_append, List.length_singleton]; omega, by rw [i4, e, Option.map_map]; simp [Function.comp_def]⟩) | (rw [if_pos ((getB_lt (by omega)).2 (by simpa using h23))] at e; exact ⟨by omega, by rw [i4, e]; rfl⟩)
          exact Can.weak (Weak.lit (by simp only [go_sem, seval, tkR_pure, tkR_len, subM, leV, inns, innr, V.inn, us, true_or, or_true] <;> ((try simp))) (by simp only [go_sem, seval, tkR_pure, tkR_len, subM, leV, inns, innr, V.inn, us, true_or, or_true]) (by simp only [go_sem, seval, tkR_pure, tkR_len, subM, leV, inns, innr, V.inn, us, true_or, or_true] <;> ((try simp [tkR_snoc]))))
      refine AWp.rgn [] (by simp only [go_sem, seval, tkR_pure, tkR_len]; rfl) ?_ ?_
      · (first | trivial | (simp; done) | (simp only [decide_eq_true_eq] at h16; have he := end_le (show q.1 < s.length by omega); first | exact ⟨by omega, hI.2.1⟩ | exact ⟨by omega, by omega⟩ | (refine ⟨by omega, by omega, by omega, by omega, by simp⟩) | (refine ⟨⟨⟨by omega, by omega, by omega, by omega, by simp⟩, rfl⟩, ?_⟩; simp; omega)))
      refine Exists.intro ((q.1 + clsEnd (s.drop q.1), p)) ⟨?_, ?_, ?_⟩
      · simp only [decide_eq_true_eq] at h16; have he := end_le (show q.1 < s.length by omega); exact ⟨by dsimp only; omega, hI.2.1, by dsimp only; have := hJ.1; omega, hJ.2⟩
      · simp only [decide_eq_true_eq] at h16; have := end_le (show q.1 < s.length by omega); dsimp only; omega
      exact Can.weak (Weak.lit (by simp only [go_sem, seval, tkR_pure, tkR_len, subM, leV, inns, innr, V.inn, us, true_or, or_true] <;> ((try simp))) (by simp only [go_sem, seval, tkR_pure, tkR_len, subM, leV, inns, innr, V.inn, us, true_or, or_true]) (by simp only [go_sem, seval, tkR_pure, tkR_len, subM, leV, inns, innr, V.inn, us, true_or, or_true] <;> ((try simp))))
    · refine AWp.exit ?_
      refine AWp.seq ?_
      refine AWp.rgn [] (by simp only [go_sem, seval, tkR_pure, tkR_len]; rfl) ?_ ?_
      · (first | trivial | (simp; done) | (simp only [decide_eq_true_eq] at h16; have he := end_le (show q.1 < s.length by omega); first | exact ⟨by omega, hI.2.1⟩ | exact ⟨by omega, by omega⟩ | (refine ⟨by omega, by omega, by omega, by omega, by simp⟩) | (refine ⟨⟨⟨by omega, by omega, by omega, by omega, by simp⟩, rfl⟩, ?_⟩; simp; omega)))
      refine AWp.frz 60 (by simp only [go_sem, seval, tkR_pure, tkR_len]; rfl) (by simp only [go_sem, seval, tkR_pure, tkR_len]) (by simp only [go_sem, seval, tkR_pure, tkR_len]; rfl) (by simp only [go_sem, seval, tkR_pure, tkR_len]; rfl) ?_
      refine AWp.ret (And.intro (.inr rfl) ?_)
      exact Out.plainL (by simp only [Tryz.results145]; rfl) (by simp only [resCs, resC, go_sem, seval, tkR_pure, tkR_len] <;> (split <;> rfl)) (by simp only [resV, go_sem, seval, tkR_pure, tkR_len] <;> (simp only [decide_eq_false_iff_not] at h16; rw [tokLine_some hI.2.1, hI.2.2.2, toks_drop (by omega)]; simp [List.take_of_length_le, tkR_len, leV, ler_refl])) (by simp only [go_sem, seval, tkR_pure, tkR_len])
end

section
set_option maxRecDepth 100000
set_option maxHeartbeats 4000000
end

section
set_option maxRecDepth 100000
set_option maxHeartbeats 4000000

theorem take_nx {α : Type} {d : α} {a b : List α} {k : Nat} (ha : k < a.length) (hb : k < b.length) (h : a.take k = b.take k) (e : a.getD k d = b.getD k d) : a.take (k + 1) = b.take (k + 1) := by
  rw [List.take_add_one (l := a), List.take_add_one (l := b), h, List.getElem?_eq_getElem ha, List.getElem?_eq_getElem hb]
  rw [List.getD_eq_getElem?_getD, List.getD_eq_getElem?_getD, List.getElem?_eq_getElem ha, List.getElem?_eq_getElem hb] at e
  rw [show a[k] = b[k] by simpa using e]
end
end Go.Proofs.YteihfmnmpdbkiaaGreatDoor
