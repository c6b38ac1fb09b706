/- Parts of the proof, one after another: What the library's functions answer: strconv.Atoi, strings.Contains; numbers. | Words of a line: the program's. Conditions: none. -/
import Derived.Test.YteihfmnmpdbkiaaGreatDoorKf
import Derived.Test.YteihfmnmpdbkiaaGreatDoorKg
import Derived.Test.YteihfmnmpdbkiaaGreatDoorKh
import Derived.Test.YteihfmnmpdbkiaaGreatDoorKd
set_option linter.unusedVariables false
set_option linter.unusedSimpArgs false
namespace Go.Proofs.YteihfmnmpdbkiaaGreatDoor
section
open Go.RowKit
set_option maxRecDepth 100000
set_option maxHeartbeats 1000000

theorem errU : En.P.underlying 168 = some (.interface (En.P.methodsAt 168)) := by kernel_rfl
def intV (o : Option Int) : V := match o with | some n => .i .i64 n | none => .no
def atoiO (s : Str) : Option Int := match Lib.atoiAll s with | .ok v => some v | _ => none
theorem atoi_a (s : Str) (hs : s.length ≤ 281474976710656) : ACall En 221 [.s s] [] [intV (atoiO s), ifV (atoiO s).isSome] [] := by
  refine acall_ext (fn := Tryz.f221) Tryz.func221 rfl rfl fun S w xs hx _ ⟨B, hB, _⟩ => ?_
  simp only [VRs, VR] at hx
  obtain ⟨x, r, e1, rfl, rfl⟩ := hx
  obtain rfl : xs = #[.string ⟨s.toArray⟩] := by apply Array.ext'; simpa using e1
  have hsz : (⟨s.toArray⟩ : ByteArray).size ≤ 281474976710656 := by simpa [ByteArray.size] using hs
  have hd : (⟨s.toArray⟩ : ByteArray).data.toList = s := by simp
  cases h : Lib.atoiAll s with
  | ok v =>
    have ho : atoiO s = some v := by simp [atoiO, h]
    refine (Tryz.strconv_Atoi_ok ⟨s.toArray⟩ (by omega) v (by rw [hd]; exact h) w).mono ?_
    rintro e w' ⟨rfl, hw⟩
    refine ⟨[.int .i64 v, .nilIface], rfl, ?_, ?_⟩
    · rcases hw with rfl | ⟨t, rfl⟩
      · exact Below.refl _ _
      · exact Lib.bytesWorld_below _ _ _
    · rw [ho]; exact .cons (by simp only [intV, VR]) (.cons (by simp [ifV, VR]) .nil)
  | range =>
    have ho : atoiO s = none := by simp [atoiO, h]
    obtain ⟨tp, p, hv⟩ := hB.rng
    refine (Any.strconv_Atoi_range_var Tryz.laysC172 ⟨s.toArray⟩ hsz (by rw [hd]; exact h) tp p w hv).mono ?_
    rintro e w' ⟨N, rfl, _, _, hb⟩
    exact ⟨[_, _], rfl, hb, by rw [ho]; exact .cons (by simp only [intV, VR]) (.cons (by simp [ifV, VR]) .nil)⟩
  | _ =>
    have ho : atoiO s = none := by simp [atoiO, h]
    obtain ⟨tp, p, hv⟩ := hB.syn
    refine (Any.strconv_Atoi_syntax_var Tryz.laysC172 ⟨s.toArray⟩ hsz (by rw [hd]; exact h) tp p w hv).mono ?_
    rintro e w' ⟨N, rfl, _, _, hb⟩
    exact ⟨[_, _], rfl, hb, by rw [ho]; exact .cons (by simp only [intV, VR]) (.cons (by simp [ifV, VR]) .nil)⟩
def numV (s : Str) : V := if numOk s then .i .i64 (numVal s) else .no
theorem numV_pure (s : Str) : (numV s).pure = true := by unfold numV; split <;> rfl
theorem numV_peel (s : Str) : peel (numV s) = numV s := by unfold numV; split <;> rfl
theorem numV_peelC (s : Str) : peelC (numV s) = true := by unfold numV; split <;> rfl
theorem leV_no (v : V) : leV v .no = True := by cases v <;> simp only [leV]
theorem idx_ge : ∀ (l : Str) (c : UInt8), -1 ≤ Lib.indexByte l c
  | [], _ => by simp [Lib.indexByte]
  | b :: l, c => by
    have := idx_ge l c
    simp only [Lib.indexByte]
    split
    · decide
    · split <;> omega
theorem idx_mem : ∀ (l : Str) (c : UInt8), 0 ≤ Lib.indexByte l c ↔ c ∈ l
  | [], _ => by simp [Lib.indexByte]
  | b :: l, c => by
    have h1 := idx_ge l c
    have h2 := idx_mem l c
    rw [List.mem_cons, ← h2, Lib.indexByte]
    by_cases hb : b = c
    · subst hb; rw [if_pos (beq_self_eq_true b)]; exact ⟨fun _ => .inl rfl, fun _ => Int.le_refl _⟩
    · rw [if_neg (by simpa using hb)]
      by_cases hc : Lib.indexByte l c = -1
      · rw [if_pos (by rw [hc]; rfl), hc]; exact ⟨fun h => absurd h (by decide), fun h => h.elim (fun e => absurd e.symm hb) id⟩
      · rw [if_neg (by simpa using hc)]; exact ⟨fun h => .inr (by omega), fun h => h.elim (fun e => absurd e.symm hb) (fun h => by omega)⟩
theorem contains_idx (l : Str) (c : UInt8) : decide (0 ≤ Lib.indexByte l c) = l.contains c := by
  rw [List.contains_eq_mem]; exact decide_eq_decide.2 (idx_mem l c)
theorem number_n (s : Str) (hs : s.length ≤ 281474976710656) (h : atoiO s = none) : ACall En 195 [.s s] [] [numV s, .b (numOk s)] [] := by
  have A := atoi_a s hs
  rw [h] at A
  have hn : numOk s = false := atoi_not fun v hv => by simp [atoiO, hv] at h
  refine acall_of_body (fn := Tryz.f195) [] Tryz.func195 rfl rfl (by simp) fun C => ?_
  rw [entry_eq]
  simp only [Tryz.ntmps195, List.length_cons, List.length_nil, Nat.reduceAdd, Nat.reduceSub, List.replicate_succ, List.replicate_zero, List.cons_append, List.nil_append, numL]
  refine AWp.seq ?_
  refine AWp.rgn [] (by simp only [go_sem, seval, intV, Option.isSome_none, numV_pure]; rfl) ?_ ?_
  · (first | trivial | (simp; done))
  refine AWp.seq ?_
  refine AWp.rgn [call0 A] (by simp only [go_sem, seval, intV, Option.isSome_none, numV_pure]; rfl) ?_ ?_
  · (first | trivial | (simp; done))
  refine AWp.seq ?_
  refine AWp.rgnS [13] [ifO En 168 false errU, call0 (in_a 0 0 1000000), call0 (itoa_a 0 (by decide) (by decide))] (by simp only [go_sem, seval, intV, Option.isSome_none, numV_pure]; rfl) ?_ ?_
  · (first | trivial | (simp; done))
  refine AWp.ret (And.intro (.inr rfl) ?_)
  exact Out.plainL (by simp only [Tryz.results195]; rfl) (by simp only [resCs, resC, go_sem, seval, intV, Option.isSome_none, numV_pure] <;> (split <;> rfl)) (by simp only [resV, go_sem, seval, intV, Option.isSome_none, numV_pure] <;> (simp [hn, numV, leV_no])) (by simp only [go_sem, seval, intV, Option.isSome_none, numV_pure])
theorem number_s (s : Str) (hs : s.length ≤ 281474976710656) {v : Int} (h : atoiO s = some v) : ACall En 195 [.s s] [] [numV s, .b (numOk s)] [] := by
  have A := atoi_a s hs
  rw [h] at A
  have hv : Lib.atoiAll s = .ok v := by
    unfold atoiO at h
    split at h
    · rename_i v' hv'; cases h; exact hv'
    · cases h
  refine acall_of_body (fn := Tryz.f195) [] Tryz.func195 rfl rfl (by simp) fun C => ?_
  rw [entry_eq]
  simp only [Tryz.ntmps195, List.length_cons, List.length_nil, Nat.reduceAdd, Nat.reduceSub, List.replicate_succ, List.replicate_zero, List.cons_append, List.nil_append, numL]
  refine AWp.seq ?_
  refine AWp.rgn [] (by simp only [go_sem, seval, intV, Option.isSome_some, numV_pure]; rfl) ?_ ?_
  · (first | trivial | (simp; done))
  refine AWp.seq ?_
  refine AWp.rgn [call0 A] (by simp only [go_sem, seval, intV, Option.isSome_some, numV_pure]; rfl) ?_ ?_
  · (first | trivial | (simp; done))
  refine AWp.seq ?_
  refine AWp.rgnS [13] [ifO En 168 true errU, call0 (in_a v 0 1000000), callI (0 ≤ v ∧ v ≤ 1000000) (fun h => itoa_a v (by omega) (by omega))] (by simp only [go_sem, seval, intV, Option.isSome_some, numV_pure]; rfl) ?_ ?_
  · (first | trivial | (simp; done))
  refine AWp.ret (And.intro (.inr rfl) ?_)
  exact Out.plainL (by simp only [Tryz.results195]; rfl) (by simp only [resCs, resC, go_sem, seval, intV, Option.isSome_some, numV_pure] <;> (split <;> rfl)) (by simp only [resV, go_sem, seval, intV, Option.isSome_some, numV_pure] <;> (have k := atoi_ok hv; cases hn : numOk s; (simp only [hn] at k; simp only [numV, hn]; refine ⟨?_, ?_⟩; (simp only [Bool.false_eq_true, if_false]; rw [leV_no]; trivial); simpa using k); (have hv2 := atoi_val hv hn; simp only [numV, hn, if_true]; rw [← hv2]; simp only [hn] at k; simp only [leV_refl]; simpa using k))) (by simp only [go_sem, seval, intV, Option.isSome_some, numV_pure])
theorem number_a (s : Str) (hs : s.length ≤ 281474976710656) : ACall En 195 [.s s] [] [numV s, .b (numOk s)] [] := by
  cases h : atoiO s with
  | none => exact number_n s hs h
  | some v => exact number_s s hs h
theorem containsB_a (s : Str) (c : UInt8) : ACall En 175 [.s s, .s [c]] [] [.b (s.contains c)] [] := by
  refine acall_ext (fn := Tryz.f175) Tryz.func175 rfl rfl fun S w xs hx _ ⟨B, hB, _⟩ => ?_
  simp only [VRs, VR] at hx
  obtain ⟨x, r, e1, rfl, y, q, rfl, rfl, rfl⟩ := hx
  obtain rfl : xs = #[.string ⟨s.toArray⟩, .string ⟨#[c]⟩] := by apply Array.ext'; simpa using e1
  refine (Tryz.strings_Contains_one ⟨s.toArray⟩ c w).mono ?_
  rintro e w' ⟨rfl, rfl⟩
  refine ⟨[_], rfl, Below.refl _ _, .cons ?_ .nil⟩
  simp only [VR]
  rw [← contains_idx]
end

section
set_option maxRecDepth 100000
set_option maxHeartbeats 4000000

theorem TokOk2_a (s : Str) (hs : s.length ≤ 281474976710656) : ACall En 154 [.i .i64 2, .s s] [] [.b (numOk s)] [] := by
  refine acall_of_body (fn := Tryz.f154) [] Tryz.func154 rfl rfl (by simp) fun C => ?_
  rw [entry_eq]
  simp only [Tryz.ntmps154, List.length_cons, List.length_nil, Nat.reduceAdd, Nat.reduceSub, List.replicate_succ, List.replicate_zero, List.cons_append, List.nil_append, numL]
  refine AWp.seq ?_
  refine AWp.rgn [] (by simp only [go_sem, seval, numV_pure, numV_peel, numV_peelC]; rfl) ?_ ?_
  · (first | trivial | (simp; done))
  refine AWp.seq ?_
  refine AWp.seq ?_
  refine AWp.rgn [] (by simp only [go_sem, seval, numV_pure, numV_peel, numV_peelC]; rfl) ?_ ?_
  · (first | trivial | (simp; done))
  refine AWp.block ?_
  refine AWp.seq ?_
  refine AWp.rgn [] (by simp only [go_sem, seval, numV_pure, numV_peel, numV_peelC]; rfl) ?_ ?_
  · (first | trivial | (simp; done))
  refine AWp.condB (by simp only [go_sem, seval, numV_pure, numV_peel, numV_peelC]; rfl) (by simp only [go_sem, seval, numV_pure, numV_peel, numV_peelC]) (fun h8 => ?_) (fun h8 => ?_)
  · exact absurd h8 (by simp)
  · refine AWp.seq ?_
    refine AWp.rgn [] (by simp only [go_sem, seval, numV_pure, numV_peel, numV_peelC]; rfl) ?_ ?_
    · (first | trivial | (simp; done))
    refine AWp.condB (by simp only [go_sem, seval, numV_pure, numV_peel, numV_peelC]; rfl) (by simp only [go_sem, seval, numV_pure, numV_peel, numV_peelC]) (fun h20 => ?_) (fun h20 => ?_)
    · refine AWp.seq ?_
      refine AWp.rgn [call0 (number_a s hs)] (by simp only [go_sem, seval, numV_pure, numV_peel, numV_peelC]; rfl) ?_ ?_
      · (first | trivial | (simp; done))
      refine AWp.seq ?_
      refine AWp.rgn [] (by simp only [go_sem, seval, numV_pure, numV_peel, numV_peelC]; rfl) ?_ ?_
      · (first | trivial | (simp; done))
      refine AWp.ret (And.intro (.inr rfl) ?_)
      exact Out.plain (by simp only [Tryz.results154]; rfl) (by simp only [resCs, resC, go_sem, seval, numV_pure, numV_peel, numV_peelC] <;> (split <;> rfl)) (by simp only [resV, go_sem, seval, numV_pure, numV_peel, numV_peelC] <;> (rfl)) (by simp only [go_sem, seval, numV_pure, numV_peel, numV_peelC])
    · exact absurd h20 (by simp)
theorem TokOk3_one (c : UInt8) : ACall En 154 [.i .i64 3, .s [c]] [] [.b (isMark [c])] [] := by
  refine acall_of_body (fn := Tryz.f154) [] Tryz.func154 rfl rfl (by simp) fun C => ?_
  rw [entry_eq]
  simp only [Tryz.ntmps154, List.length_cons, List.length_nil, Nat.reduceAdd, Nat.reduceSub, List.replicate_succ, List.replicate_zero, List.cons_append, List.nil_append, numL]
  refine AWp.seq ?_
  refine AWp.rgn [] (by simp only [go_sem, seval]; rfl) ?_ ?_
  · (first | trivial | (simp [marks]; done))
  refine AWp.seq ?_
  refine AWp.seq ?_
  refine AWp.rgn [] (by simp only [go_sem, seval]; rfl) ?_ ?_
  · (first | trivial | (simp [marks]; done))
  refine AWp.block ?_
  refine AWp.seq ?_
  refine AWp.rgn [] (by simp only [go_sem, seval]; rfl) ?_ ?_
  · (first | trivial | (simp [marks]; done))
  refine AWp.condB (by simp only [go_sem, seval]; rfl) (by simp only [go_sem, seval]) (fun h8 => ?_) (fun h8 => ?_)
  · exact absurd h8 (by simp)
  · refine AWp.seq ?_
    refine AWp.rgn [] (by simp only [go_sem, seval]; rfl) ?_ ?_
    · (first | trivial | (simp [marks]; done))
    refine AWp.condB (by simp only [go_sem, seval]; rfl) (by simp only [go_sem, seval]) (fun h20 => ?_) (fun h20 => ?_)
    · exact absurd h20 (by simp)
    · refine AWp.seq ?_
      refine AWp.rgn [] (by simp only [go_sem, seval]; rfl) ?_ ?_
      · (first | trivial | (simp [marks]; done))
      refine AWp.condB (by simp only [go_sem, seval]; rfl) (by simp only [go_sem, seval]) (fun h28 => ?_) (fun h28 => ?_)
      · refine AWp.seq ?_
        refine AWp.rgn [call0 (containsB_a marks c)] (by simp only [go_sem, seval]; rfl) ?_ ?_
        · (first | trivial | (simp [marks]; done))
        refine AWp.ret (And.intro (.inr rfl) ?_)
        exact Out.plain (by simp only [Tryz.results154]; rfl) (by simp only [resCs, resC, go_sem, seval] <;> (split <;> rfl)) (by simp only [resV, go_sem, seval] <;> (simp [isMark])) (by simp only [go_sem, seval])
      · exact absurd h28 (by simp)
theorem TokOk3_not (s : Str) (h : s.length ≠ 1) : ACall En 154 [.i .i64 3, .s s] [] [.b (isMark s)] [] := by
  have h2 : ((s.length : Int) == 1) = false := by simpa using (show ¬ (s.length : Int) = 1 by omega)
  refine acall_of_body (fn := Tryz.f154) [] Tryz.func154 rfl rfl (by simp) fun C => ?_
  rw [entry_eq]
  simp only [Tryz.ntmps154, List.length_cons, List.length_nil, Nat.reduceAdd, Nat.reduceSub, List.replicate_succ, List.replicate_zero, List.cons_append, List.nil_append, numL]
  refine AWp.seq ?_
  refine AWp.rgn [] (by simp only [go_sem, seval]; rfl) ?_ ?_
  · (first | trivial | (simp [h2]; done))
  refine AWp.seq ?_
  refine AWp.seq ?_
  refine AWp.rgn [] (by simp only [go_sem, seval]; rfl) ?_ ?_
  · (first | trivial | (simp [h2]; done))
  refine AWp.block ?_
  refine AWp.seq ?_
  refine AWp.rgn [] (by simp only [go_sem, seval]; rfl) ?_ ?_
  · (first | trivial | (simp [h2]; done))
  refine AWp.condB (by simp only [go_sem, seval]; rfl) (by simp only [go_sem, seval]) (fun h8 => ?_) (fun h8 => ?_)
  · exact absurd h8 (by simp)
  · refine AWp.seq ?_
    refine AWp.rgn [] (by simp only [go_sem, seval]; rfl) ?_ ?_
    · (first | trivial | (simp [h2]; done))
    refine AWp.condB (by simp only [go_sem, seval]; rfl) (by simp only [go_sem, seval]) (fun h20 => ?_) (fun h20 => ?_)
    · exact absurd h20 (by simp)
    · refine AWp.seq ?_
      refine AWp.rgn [] (by simp only [go_sem, seval]; rfl) ?_ ?_
      · (first | trivial | (simp [h2]; done))
      refine AWp.condB (by simp only [go_sem, seval]; rfl) (by simp only [go_sem, seval]) (fun h28 => ?_) (fun h28 => ?_)
      · refine AWp.seq ?_
        refine AWp.rgn [call0 (containsB_a marks 0)] (by simp only [go_sem, seval]; rfl) ?_ ?_
        · (first | trivial | (simp [h2]; done))
        refine AWp.ret (And.intro (.inr rfl) ?_)
        exact Out.plain (by simp only [Tryz.results154]; rfl) (by simp only [resCs, resC, go_sem, seval] <;> (split <;> rfl)) (by simp only [resV, go_sem, seval] <;> (simp [isMark, h, h2])) (by simp only [go_sem, seval])
      · exact absurd h28 (by simp)
def tokOk (k : Int) (s : Str) : Bool := if k = 1 then isWord s else if k = 2 then numOk s else isMark s
theorem TokOk_a (k : Int) (hk : k = 1 ∨ k = 2 ∨ k = 3) (s : Str) (hs : s.length ≤ 281474976710656) : ACall En 154 [.i .i64 k, .s s] [] [.b (tokOk k s)] [] := by
  rcases hk with rfl | rfl | rfl
  · exact TokOk1_a s (by omega)
  · exact TokOk2_a s hs
  · by_cases h : s.length = 1
    · obtain ⟨c, rfl⟩ := List.length_eq_one_iff.1 h
      exact TokOk3_one c
    · exact TokOk3_not s h
theorem tkKind_tok (s : Str) : tkKind s = if tokOk 1 s then 1 else if tokOk 2 s then 2 else if tokOk 3 s then 3 else 0 := rfl
theorem TokKind_a (s : Str) (hs : s.length ≤ 281474976710656) : ACall En 92 [.s s] [] [.i .i64 (tkKind s)] [] := by
  refine acall_of_body (fn := Tryz.f92) [] Tryz.func92 rfl rfl (by simp) fun C => ?_
  rw [entry_eq]
  simp only [Tryz.ntmps92, List.length_cons, List.length_nil, Nat.reduceAdd, Nat.reduceSub, List.replicate_succ, List.replicate_zero, List.cons_append, List.nil_append, numL]
  refine AWp.seq ?_
  refine AWp.rgn [] (by simp only [go_sem, seval]; rfl) ?_ ?_
  · (first | trivial | (simp; done))
  refine AWp.seq ?_
  refine AWp.seq ?_
  refine AWp.rgn [] (by simp only [go_sem, seval]; rfl) ?_ ?_
  · (first | trivial | (simp; done))
  refine AWp.block ?_
  refine AWp.loopK (fun k : Int => ⟨[.s s, .no, .no, .i .i64 k, .no, .no, .no, .no, .no, .no, .no, .no], memOf [], us []⟩) (fun k : Int => 1 ≤ k ∧ k ≤ 4 ∧ (1 < k → tokOk 1 s = false) ∧ (2 < k → tokOk 2 s = false) ∧ (3 < k → tokOk 3 s = false)) (fun k : Int => (4 - k).toNat) (1) ?_ ?_ (fun k hI => ?_)
  · simp
  · exact Can.weak (Weak.lit (by simp only [go_sem, seval, subM, leV, inns, innr, V.inn, us, true_or, or_true] <;> (simp)) (by simp only [go_sem, seval, subM, leV, inns, innr, V.inn, us, true_or, or_true]) (by simp only [go_sem, seval, subM, leV, inns, innr, V.inn, us, true_or, or_true]))
  refine AWp.seq ?_
  refine AWp.seq ?_
  refine AWp.rgn [] (by simp only [go_sem, seval]; rfl) ?_ ?_
  · (first | trivial | (simp; done))
  refine AWp.condB (by simp only [go_sem, seval]; rfl) (by simp only [go_sem, seval]) (fun h5 => ?_) (fun h5 => ?_)
  · refine AWp.skip ?_
    refine AWp.seq ?_
    refine AWp.block ?_
    refine AWp.seq ?_
    refine AWp.rgn [callI (k = 1 ∨ k = 2 ∨ k = 3) (fun h => TokOk_a k h s hs)] (by simp only [go_sem, seval]; rfl) ?_ ?_
    · simp at h5; omega
    refine AWp.condB (by simp only [go_sem, seval]; rfl) (by simp only [go_sem, seval]) (fun h10 => ?_) (fun h10 => ?_)
    · refine AWp.seq ?_
      refine AWp.rgn [] (by simp only [go_sem, seval]; rfl) ?_ ?_
      · (first | trivial | (simp; done))
      refine AWp.ret (And.intro (.inr rfl) ?_)
      exact Out.plain (by simp only [Tryz.results92]; rfl) (by simp only [resCs, resC, go_sem, seval] <;> (split <;> rfl)) (by simp only [resV, go_sem, seval] <;> (simp at h5; (have hk : k = 1 ∨ k = 2 ∨ k = 3 := by omega); rw [tkKind_tok]; rcases hk with rfl | rfl | rfl <;> simp_all)) (by simp only [go_sem, seval])
    · refine AWp.skip ?_
      refine AWp.rgn [] (by simp only [go_sem, seval]; rfl) ?_ ?_
      · (first | trivial | (simp; done))
      refine Exists.intro (k + 1) ⟨?_, ?_, ?_⟩
      · simp at h5; (have hk : k = 1 ∨ k = 2 ∨ k = 3 := by omega); rcases hk with rfl | rfl | rfl <;> simp_all
      · simp at h5; omega
      exact Can.weak (Weak.lit (by simp only [go_sem, seval, subM, leV, inns, innr, V.inn, us, true_or, or_true] <;> (rw [wrap64 (by omega) (by omega)])) (by simp only [go_sem, seval, subM, leV, inns, innr, V.inn, us, true_or, or_true]) (by simp only [go_sem, seval, subM, leV, inns, innr, V.inn, us, true_or, or_true]))
  · refine AWp.exit ?_
    refine AWp.seq ?_
    refine AWp.rgn [] (by simp only [go_sem, seval]; rfl) ?_ ?_
    · (first | trivial | (simp; done))
    refine AWp.ret (And.intro (.inr rfl) ?_)
    exact Out.plain (by simp only [Tryz.results92]; rfl) (by simp only [resCs, resC, go_sem, seval] <;> (split <;> rfl)) (by simp only [resV, go_sem, seval] <;> (simp at h5; (have hk : k = 4 := by omega); subst hk; simp_all [tkKind_tok])) (by simp only [go_sem, seval])
def tkR (l : List Tk) : List (List V) := l.map fun t => [.i .i64 t.kind, .s t.s, .i .i64 t.col]
theorem tkR_len (l : List Tk) : (tkR l).length = l.length := by simp [tkR]
theorem tkR_pure : ∀ l : List Tk, purer (tkR l) = true
  | [] => rfl
  | _ :: r => by show (pures [_, _, _] && purer (tkR r)) = true; rw [tkR_pure r]; rfl
theorem tkR_snoc (l : List Tk) (t : Tk) : tkR (l ++ [t]) = tkR l ++ [[.i .i64 t.kind, .s t.s, .i .i64 t.col]] := by simp [tkR]
theorem tkR_rows (l : List Tk) : (∀ r, r ∈ tkR l → r.length = 3) = True := eq_true fun r hr => by obtain ⟨t, _, rfl⟩ := List.mem_map.1 hr; rfl
theorem tkR_get {l : List Tk} {k : Nat} (h : k < l.length) : (tkR l).getD k [] = [.i .i64 (l.getD k ⟨0, [], 0⟩).kind, .s (l.getD k ⟨0, [], 0⟩).s, .i .i64 (l.getD k ⟨0, [], 0⟩).col] := by
  simp [tkR, List.getD_eq_getElem?_getD, List.getElem?_eq_getElem h]
theorem ClipTok_a (l : List Tk) (n : Nat) (hn : n = l.length) (hl : l.length < 1099511627776) : ACall En 93 [.ow 0 3 0 n] [⟨56, 3, tkR l⟩] [.ow 0 3 0 n] [⟨56, 3, tkR l⟩] := by
  refine acall_of_body (fn := Tryz.f93) [0] Tryz.func93 rfl rfl (by simp) fun C => ?_
  rw [entry_eq]
  simp only [Tryz.ntmps93, List.length_cons, List.length_nil, Nat.reduceAdd, Nat.reduceSub, List.replicate_succ, List.replicate_zero, List.cons_append, List.nil_append, numL]
  refine AWp.seq ?_
  refine AWp.rgn [] (by simp only [go_sem, seval, tkR_pure]; rfl) ?_ ?_
  · subst hn; simp [tkR_len]
  refine AWp.seq ?_
  refine AWp.rgn [] (by simp only [go_sem, seval, tkR_pure]; rfl) ?_ ?_
  · subst hn; simp [tkR_len]
  refine AWp.ret (And.intro (.inr rfl) ?_)
  exact Out.mem' (by simp only [Tryz.results93]; rfl) (by simp only [resCs, resC, go_sem, seval, tkR_pure]) (by simp only [resV, rns, rn, go_sem, seval, tkR_pure] <;> (simp)) (by simp) rfl (by decide) (by simp only [go_sem, seval, tkR_pure]) (by simp only [clrs, go_sem, seval, tkR_pure]) (by simp only [memEq, go_sem, seval, tkR_pure] <;> (simp [rnr_pure, tkR_pure]))
theorem toks_at {l : Str} {k : Nat} (h : k < l.length) (col : Int) : toks (l.drop k).length (l.drop k) col =
    if l.getD k 0 = 32 then toks (l.drop (k + 1)).length (l.drop (k + 1)) (col + 1)
    else if tkKind ((l.drop k).take (wlen (l.drop k))) = 0 then none
    else (toks (l.drop (k + wlen (l.drop k))).length (l.drop (k + wlen (l.drop k))) (col + wlen (l.drop k))).map (⟨tkKind ((l.drop k).take (wlen (l.drop k))), (l.drop k).take (wlen (l.drop k)), col⟩ :: ·) := by
  have e : l.drop k = l.getD k 0 :: l.drop (k + 1) := by
    rw [List.drop_eq_getElem_cons h, List.getD_eq_getElem?_getD, List.getElem?_eq_getElem h]; rfl
  have h2 := toks_cons (l.getD k 0) (l.drop (k + 1)) col
  rw [← e, List.drop_drop] at h2
  exact h2
theorem getB_lt {l : Str} {k : Nat} (h : k < l.length) : l.getD k 0 = 32 ↔ ((l.getD k 0).toNat : Int) = 32 := by
  constructor
  · intro e; rw [e]; rfl
  · intro e; apply UInt8.toNat_inj.1; show _ = 32; omega
theorem wl_b {s : Str} {k : Nat} (h : k < s.length) : 1 ≤ wlen (s.drop k) ∧ k + wlen (s.drop k) ≤ s.length := by
  have h1 := wlen_pos (s.drop k)
  have h2 := wlen_le (l := s.drop k) (fun e => by have := congrArg List.length e; rw [List.length_drop] at this; simp only [List.length_nil] at this; omega)
  rw [List.length_drop] at h2
  omega
theorem piece_eq (s : Str) (k w : Nat) : (s.take (k + w)).drop k = (s.drop k).take w := by rw [List.drop_take, Nat.add_sub_cancel_left]
theorem wl_max (r : Str) : (if ((r.takeWhile digit).length : Int) > (if ((r.takeWhile lower).length : Int) > 1 then ((r.takeWhile lower).length : Int) else 1) then ((r.takeWhile digit).length : Int) else (if ((r.takeWhile lower).length : Int) > 1 then ((r.takeWhile lower).length : Int) else 1)) = (wlen r : Int) := by
  unfold wlen
  split <;> split at * <;> omega
theorem tokLine_none {s : Str} (h : 120 < s.length) : tokLine s = none := by rw [tokLine, if_pos h]
theorem tokLine_some {s : Str} (h : s.length ≤ 120) : tokLine s = toks s.length s 0 := by rw [tokLine, if_neg (by omega)]
theorem toks_drop {s : Str} {k : Nat} (h : s.length ≤ k) (c : Int) : toks (s.drop k).length (s.drop k) c = some [] := by rw [List.drop_of_length_le h]; rfl
theorem TokLine_a (s : Str) (hs : s.length ≤ 281474976710656) : ACall En 30 [.s s] [] [.sl false (tkR ((tokLine s).getD [])), .b (tokLine s).isSome] [] := by
  refine acall_of_body (fn := Tryz.f30) [] Tryz.func30 rfl rfl (by simp) fun C => ?_
  rw [entry_eq]
  simp only [Tryz.ntmps30, List.length_cons, List.length_nil, Nat.reduceAdd, Nat.reduceSub, List.replicate_succ, List.replicate_zero, List.cons_append, List.nil_append, numL]
  refine AWp.seq ?_
  refine AWp.rgn [] (by simp only [go_sem, seval, tkR_pure, tkR_len]; rfl) ?_ ?_
  · (first | trivial | (simp; done))
  refine AWp.seq ?_
  refine AWp.seq ?_
  refine AWp.rgn [] (by simp only [go_sem, seval, tkR_pure, tkR_len]; rfl) ?_ ?_
  · (first | trivial | (simp; done))
  refine AWp.condB (by simp only [go_sem, seval, tkR_pure, tkR_len]; rfl) (by simp only [go_sem, seval, tkR_pure, tkR_len]) (fun h10 => ?_) (fun h10 => ?_)
  · refine AWp.seq ?_
    refine AWp.rgn [] (by simp only [go_sem, seval, tkR_pure, tkR_len]; rfl) ?_ ?_
    · (first | trivial | (simp; done))
    refine AWp.ret (And.intro (.inr rfl) ?_)
    exact Out.plainL (by simp only [Tryz.results30]; rfl) (by simp only [resCs, resC, go_sem, seval, tkR_pure, tkR_len] <;> (split <;> rfl)) (by simp only [resV, go_sem, seval, tkR_pure, tkR_len] <;> (simp at h10; rw [tokLine_none (by omega)]; simp [tkR, ler])) (by simp only [go_sem, seval, tkR_pure, tkR_len])
  · refine AWp.skip ?_
    refine AWp.seq ?_
    refine AWp.rgn [] (by simp only [go_sem, seval, tkR_pure, tkR_len]; rfl) ?_ ?_
    · (first | trivial | (simp; done))
    refine AWp.seq ?_
    refine AWp.seq ?_
    refine AWp.rgn [] (by simp only [go_sem, seval, tkR_pure, tkR_len]; rfl) ?_ ?_
    · (first | trivial | (simp; done))
    refine AWp.block ?_
    refine AWp.loopK (fun k : Nat × List Tk => ⟨[.s s, .no, .no, .no, .ow 20 3 0 k.2.length, .i .i64 k.1, .no, .no, .no, .no, .no, .no, .no, .no, .no, .no, .no, .no, .no, .no, .no, .no, .no, .no, .no, .no, .no, .no, .no, .no, .no, .no, .no, .no, .no, .no, .no, .no, .no, .no, .no, .no, .no, .no, .no, .no, .no, .no, .no, .no, .no, .no, .no, .no, .no, .no, .no], memOf [(20, ⟨56, 3, tkR k.2⟩)], us [20]⟩) (fun k : Nat × List Tk => k.1 ≤ s.length ∧ s.length ≤ 120 ∧ k.2.length ≤ k.1 ∧ toks s.length s 0 = (toks (s.drop k.1).length (s.drop k.1) k.1).map (k.2 ++ ·)) (fun k : Nat × List Tk => s.length - k.1) ((0, [])) ?_ ?_ (fun k hI => ?_)
    · simp at h10; simp; omega
    · refine Can.trans (Can.ownSlot 4 20 56 3 (by simp only [go_sem, seval, tkR_pure, tkR_len] <;> rfl) (by simp only [go_sem, seval, tkR_pure, tkR_len]) (by simp only [go_sem, seval, tkR_pure, tkR_len] <;> rfl)) ?_
      exact Can.weak (Weak.lit (by simp only [go_sem, seval, tkR_pure, tkR_len, subM, leV, inns, innr, V.inn, us, true_or, or_true] <;> (rfl)) (by simp only [go_sem, seval, tkR_pure, tkR_len, subM, leV, inns, innr, V.inn, us, true_or, or_true]) (by simp only [go_sem, seval, tkR_pure, tkR_len, subM, leV, inns, innr, V.inn, us, true_or, or_true] <;> (rfl)))
    refine AWp.seq ?_
    refine AWp.seq ?_
    refine AWp.rgn [] (by simp only [go_sem, seval, tkR_pure, tkR_len]; rfl) ?_ ?_
    · (first | trivial | (simp; done))
    refine AWp.condB (by simp only [go_sem, seval, tkR_pure, tkR_len]; rfl) (by simp only [go_sem, seval, tkR_pure, tkR_len]) (fun h14 => ?_) (fun h14 => ?_)
    · refine AWp.skip ?_
      refine AWp.block ?_
      refine AWp.seq ?_
      refine AWp.seq ?_
      refine AWp.rgn [] (by simp only [go_sem, seval, tkR_pure, tkR_len]; rfl) ?_ ?_
      · simp at h14; simp; exact h14
      refine AWp.condB (by simp only [go_sem, seval, tkR_pure, tkR_len]; rfl) (by simp only [go_sem, seval, tkR_pure, tkR_len]) (fun h18 => ?_) (fun h18 => ?_)
      · refine AWp.seq ?_
        refine AWp.rgn [] (by simp only [go_sem, seval, tkR_pure, tkR_len]; rfl) ?_ ?_
        · (first | trivial | (simp; done))
        refine AWp.exit ?_
        refine Exists.intro ((k.1 + 1, k.2)) ⟨?_, ?_, ?_⟩
        · simp only [decide_eq_true_eq] at h14; simp only [beq_iff_eq] at h18; obtain ⟨i1, i2, i3, i4⟩ := hI; have e := toks_at (show k.1 < s.length by omega) k.1; rw [if_pos ((getB_lt (by omega)).2 h18)] at e; exact ⟨by dsimp only; omega, i2, by dsimp only; omega, by rw [i4, e]; rfl⟩
        · simp only [decide_eq_true_eq] at h14; dsimp only; omega
        exact Can.weak (Weak.lit (by simp only [go_sem, seval, tkR_pure, tkR_len, subM, leV, inns, innr, V.inn, us, true_or, or_true] <;> (rw [wrap64 (by omega) (by omega)]; rfl)) (by simp only [go_sem, seval, tkR_pure, tkR_len, subM, leV, inns, innr, V.inn, us, true_or, or_true]) (by simp only [go_sem, seval, tkR_pure, tkR_len, subM, leV, inns, innr, V.inn, us, true_or, or_true]))
      · refine AWp.skip ?_
        refine AWp.seqJ (fun u : Unit => ⟨[.s s, .no, .no, .no, .ow 20 3 0 k.2.length, .i .i64 k.1, .i .i64 (wlen (s.drop k.1)), .no, .no, .no, .no, .no, .no, .no, .no, .no, .no, .no, .no, .no, .no, .no, .no, .no, .no, .no, .no, .no, .no, .no, .no, .no, .no, .no, .no, .no, .no, .no, .no, .no, .no, .no, .no, .no, .no, .no, .no, .no, .no, .no, .no, .no, .no, .no, .no, .no, .no], memOf [(20, ⟨56, 3, tkR k.2⟩)], us [20]⟩) (fun u : Unit => True) ?_ (fun u hJ => ?_)
        · refine AWp.rgnDS [29] [call0 (run_a lower 90 isLetter_a (s.drop k.1) (by simp; omega)), call0 (run_a digit 91 isDigit_a (s.drop k.1) (by simp; omega)), maxO En] enM (by simp only [go_sem, seval, tkR_pure, tkR_len]; rfl) (by rfl) ?_ ?_
          · simp at h14; simp; omega
          refine Exists.intro (()) ⟨?_, ?_⟩
          · trivial
          exact Can.weak (Weak.lit (by simp only [go_sem, seval, tkR_pure, tkR_len, subM, leV, inns, innr, V.inn, us, true_or, or_true] <;> (rw [wl_max])) (by simp only [go_sem, seval, tkR_pure, tkR_len, subM, leV, inns, innr, V.inn, us, true_or, or_true]) (by simp only [go_sem, seval, tkR_pure, tkR_len, subM, leV, inns, innr, V.inn, us, true_or, or_true]))
        refine AWp.seq ?_
        refine AWp.rgnD [call0 (TokKind_a ((s.drop k.1).take (wlen (s.drop k.1))) (by simp; omega))] enM (by simp only [go_sem, seval, tkR_pure, tkR_len, show IntKind.i64.wrap ((k.1 : Int) + (wlen (s.drop k.1) : Int)) = ((k.1 + wlen (s.drop k.1) : Nat) : Int) by (have := wl_b (show k.1 < s.length by simpa using h14); rw [wrap64 (by omega) (by omega)]; rfl), piece_eq]; rfl) (by rfl) ?_ ?_
        · have h14' : k.1 < s.length := (by simpa using h14); have := wl_b h14'; simp [fsOk]; omega
        refine AWp.seq ?_
        refine AWp.seq ?_
        refine AWp.rgn [] (by simp only [go_sem, seval, tkR_pure, tkR_len]; rfl) ?_ ?_
        · (first | trivial | (simp; done))
        refine AWp.condB (by simp only [go_sem, seval, tkR_pure, tkR_len]; rfl) (by simp only [go_sem, seval, tkR_pure, tkR_len]) (fun h47 => ?_) (fun h47 => ?_)
        · refine AWp.seq ?_
          refine AWp.rgn [] (by simp only [go_sem, seval, tkR_pure, tkR_len]; rfl) ?_ ?_
          · (first | trivial | (simp; done))
          refine AWp.ret (And.intro (.inr rfl) ?_)
          exact Out.plainL (by simp only [Tryz.results30]; rfl) (by simp only [resCs, resC, go_sem, seval, tkR_pure, tkR_len] <;> (split <;> rfl)) (by simp only [resV, go_sem, seval, tkR_pure, tkR_len] <;> (simp only [decide_eq_true_eq] at h14; simp only [beq_eq_false_iff_ne] at h18; simp only [beq_iff_eq] at h47; have e := toks_at (show k.1 < s.length by omega) k.1; rw [if_neg (fun h => h18 ((getB_lt (by omega)).1 h)), if_pos h47] at e; rw [tokLine_some (by omega), hI.2.2.2, e]; simp [tkR, ler])) (by simp only [go_sem, seval, tkR_pure, tkR_len])
        · refine AWp.skip ?_
          refine AWp.seq ?_
          refine AWp.rgn [] (by simp only [go_sem, seval, tkR_pure, tkR_len]; rfl) ?_ ?_
          · simp [tkR_rows]; omega
          refine AWp.rgn [] (by simp only [go_sem, seval, tkR_pure, tkR_len]; rfl) ?_ ?_
          · (first | trivial | (simp; done))
          refine Exists.intro ((k.1 + wlen (s.drop k.1), k.2 ++ [⟨tkKind ((s.drop k.1).take (wlen (s.drop k.1))), (s.drop k.1).take (wlen (s.drop k.1)), k.1⟩])) ⟨?_, ?_, ?_⟩
          · simp only [decide_eq_true_eq] at h14; simp only [beq_eq_false_iff_ne] at h18 h47; obtain ⟨i1, i2, i3, i4⟩ := hI; have e := toks_at (show k.1 < s.length by omega) k.1; rw [if_neg (fun h => h18 ((getB_lt (by omega)).1 h)), if_neg h47] at e; have hb := wl_b (show k.1 < s.length by omega); exact ⟨by dsimp only; omega, i2, by simp only [List.length_append, List.length_singleton]; omega, by rw [i4, e, Option.map_map]; simp [Function.comp_def]⟩
          · simp only [decide_eq_true_eq] at h14; have hb := wl_b (show k.1 < s.length by omega); dsimp only; omega
          refine Can.trans (Can.swap 61 20 (by decide) (by decide) (by decide) (by decide) (by simp only [go_sem, seval, tkR_pure, tkR_len, V.cl]) (by simp only [go_sem, seval, tkR_pure, tkR_len, V.cl]) (by simp only [go_sem, seval, tkR_pure, tkR_len, swL_get, sw, swM, rnB] <;> rfl) (by simp only [go_sem, seval, tkR_pure, tkR_len, swL_get, sw, swM, rnB] <;> rfl) (by simp only [go_sem, seval, tkR_pure, tkR_len, swL_get, sw, swM, rnB] <;> rfl)) ?_
          exact Can.weak (Weak.lit (by simp only [go_sem, seval, tkR_pure, tkR_len, subM, leV, inns, innr, V.inn, us, true_or, or_true] <;> ((have hb := wl_b (show k.1 < s.length by simpa using h14)); rw [wrap64 (by omega) (by omega)]; simp)) (by simp only [go_sem, seval, tkR_pure, tkR_len, subM, leV, inns, innr, V.inn, us, true_or, or_true]) (by simp only [go_sem, seval, tkR_pure, tkR_len, subM, leV, inns, innr, V.inn, us, true_or, or_true] <;> (rw [tkR_snoc])))
    · refine AWp.exit ?_
      refine AWp.seq ?_
      refine AWp.rgn [callN [20] [] (ClipTok_a k.2 k.2.length rfl (by omega))] (by simp only [go_sem, seval, tkR_pure, tkR_len]; rfl) ?_ ?_
      · simp [memEq, clrs, tkR_pure]
      refine AWp.frz 20 (by simp only [go_sem, seval, tkR_pure, tkR_len]; rfl) (by simp only [go_sem, seval, tkR_pure, tkR_len]) (by simp only [go_sem, seval, tkR_pure, tkR_len]; rfl) (by simp only [go_sem, seval, tkR_pure, tkR_len]; rfl) ?_
      refine AWp.ret (And.intro (.inr rfl) ?_)
      exact Out.plainL (by simp only [Tryz.results30]; rfl) (by simp only [resCs, resC, go_sem, seval, tkR_pure, tkR_len] <;> (split <;> rfl)) (by simp only [resV, go_sem, seval, tkR_pure, tkR_len] <;> (simp only [decide_eq_false_iff_not] at h14; rw [tokLine_some (by omega), hI.2.2.2, toks_drop (by omega)]; simp [List.take_of_length_le, tkR_len, leV, ler_refl])) (by simp only [go_sem, seval, tkR_pure, tkR_len])
end
end Go.Proofs.YteihfmnmpdbkiaaGreatDoor
