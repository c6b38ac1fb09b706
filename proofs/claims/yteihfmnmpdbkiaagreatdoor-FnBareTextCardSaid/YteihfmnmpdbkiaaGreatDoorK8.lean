/- Parts of the proof, one after another: Lists of numbers: the same, marked, held. | Lines without types, drawn. Conditions: none. -/
import Derived.Test.YteihfmnmpdbkiaaGreatDoorKt
import Derived.Test.YteihfmnmpdbkiaaGreatDoorKx
import Derived.Test.YteihfmnmpdbkiaaGreatDoorK4
import Derived.Test.YteihfmnmpdbkiaaGreatDoorK6
import Derived.Test.YteihfmnmpdbkiaaGreatDoorKv
set_option linter.unusedVariables false
set_option linter.unusedSimpArgs false
namespace Go.Proofs.YteihfmnmpdbkiaaGreatDoor
section
set_option maxRecDepth 100000
set_option maxHeartbeats 4000000

theorem take_nxI {α : Type} {d : α} {a b : List α} {k : Nat} (ha : k < a.length) (hb : k < b.length) (h : a.take k = b.take k) (e : a.getD k d = b.getD k d) : a.take (k + 1) = b.take (k + 1) := by
  rw [List.take_add_one (l := a), List.take_add_one (l := b), h, List.getElem?_eq_getElem ha, List.getElem?_eq_getElem hb]
  rw [List.getD_eq_getElem?_getD, List.getD_eq_getElem?_getD, List.getElem?_eq_getElem ha, List.getElem?_eq_getElem hb] at e
  rw [show a[k] = b[k] by simpa using e]
theorem eqIntS_a (a b : List Int) (ha : a.length ≤ 1000000000000) (hb : b.length ≤ 1000000000000) : ACall En 51 [.sl false (inR a), .sl false (inR b)] [] [.b (a == b)] [] := by
  refine acall_of_body (fn := Tryz.f51) [] Tryz.func51 rfl rfl (by simp) fun C => ?_
  rw [entry_eq]
  simp only [Tryz.ntmps51, List.length_cons, List.length_nil, Nat.reduceAdd, Nat.reduceSub, List.replicate_succ, List.replicate_zero, List.cons_append, List.nil_append, numL]
  refine AWp.seq ?_
  refine AWp.rgn [] (by simp only [go_sem, seval, inR_len, inR_pure]; rfl) ?_ ?_
  · (first | trivial | (simp; done))
  refine AWp.seq ?_
  refine AWp.seq ?_
  refine AWp.rgn [] (by simp only [go_sem, seval, inR_len, inR_pure]; rfl) ?_ ?_
  · (first | trivial | (simp; done))
  refine AWp.condB (by simp only [go_sem, seval, inR_len, inR_pure]; rfl) (by simp only [go_sem, seval, inR_len, inR_pure]) (fun h10 => ?_) (fun h10 => ?_)
  · refine AWp.seq ?_
    refine AWp.rgn [] (by simp only [go_sem, seval, inR_len, inR_pure]; rfl) ?_ ?_
    · (first | trivial | (simp; done))
    refine AWp.ret (And.intro (.inr rfl) ?_)
    exact Out.plain (by simp only [Tryz.results51]; rfl) (by simp only [resCs, resC, go_sem, seval, inR_len, inR_pure] <;> (split <;> rfl)) (by simp only [resV, go_sem, seval, inR_len, inR_pure] <;> (have : a ≠ b := (fun e => by simp [e] at h10); simp [this])) (by simp only [go_sem, seval, inR_len, inR_pure])
  · refine AWp.skip ?_
    refine AWp.seq ?_
    refine AWp.seq ?_
    refine AWp.rgn [] (by simp only [go_sem, seval, inR_len, inR_pure]; rfl) ?_ ?_
    · (first | trivial | (simp; done))
    refine AWp.block ?_
    refine AWp.loopK (fun k : Nat => ⟨[.sl false (inR a), .sl false (inR b), .no, .no, .no, .i .i64 k, .no, .no, .no, .no, .no, .no, .no, .no, .no, .no, .no, .no, .no, .no, .no, .no, .no, .no, .no, .no], memOf [], us []⟩) (fun k : Nat => k ≤ a.length ∧ a.take k = b.take k) (fun k : Nat => a.length - k) (0) ?_ ?_ (fun k hI => ?_)
    · exact ⟨Nat.zero_le _, rfl⟩
    · exact Can.weak (Weak.lit (by simp only [go_sem, seval, inR_len, inR_pure, subM, leV, inns, innr, V.inn, us, true_or, or_true] <;> (simp)) (by simp only [go_sem, seval, inR_len, inR_pure, subM, leV, inns, innr, V.inn, us, true_or, or_true]) (by simp only [go_sem, seval, inR_len, inR_pure, subM, leV, inns, innr, V.inn, us, true_or, or_true]))
    refine AWp.seq ?_
    refine AWp.seq ?_
    refine AWp.rgn [] (by simp only [go_sem, seval, inR_len, inR_pure]; rfl) ?_ ?_
    · (first | trivial | (simp; done))
    refine AWp.condB (by simp only [go_sem, seval, inR_len, inR_pure]; rfl) (by simp only [go_sem, seval, inR_len, inR_pure]) (fun h14 => ?_) (fun h14 => ?_)
    · refine AWp.skip ?_
      refine AWp.seq ?_
      refine AWp.block ?_
      refine AWp.seq ?_
      refine AWp.rgnD [] enM (by simp only [go_sem, seval, inR_len, inR_pure, inR_get (show k < a.length by simpa using h14), inR_get (show k < b.length by simp at h14 h10; omega)]; rfl) (by rfl) ?_ ?_
      · simp at h14 h10; simp; omega
      refine AWp.condB (by simp only [go_sem, seval, inR_len, inR_pure]; rfl) (by simp only [go_sem, seval, inR_len, inR_pure]) (fun h25 => ?_) (fun h25 => ?_)
      · refine AWp.seq ?_
        refine AWp.rgn [] (by simp only [go_sem, seval, inR_len, inR_pure]; rfl) ?_ ?_
        · (first | trivial | (simp; done))
        refine AWp.ret (And.intro (.inr rfl) ?_)
        exact Out.plain (by simp only [Tryz.results51]; rfl) (by simp only [resCs, resC, go_sem, seval, inR_len, inR_pure] <;> (split <;> rfl)) (by simp only [resV, go_sem, seval, inR_len, inR_pure] <;> (have h2 : a.getD k 0 ≠ b.getD k 0 := bne_iff_ne.1 h25; have : a ≠ b := (fun e => h2 (by rw [e])); simp [this])) (by simp only [go_sem, seval, inR_len, inR_pure])
      · refine AWp.skip ?_
        refine AWp.rgn [] (by simp only [go_sem, seval, inR_len, inR_pure]; rfl) ?_ ?_
        · (first | trivial | (simp; done))
        refine Exists.intro (k + 1) ⟨?_, ?_, ?_⟩
        · simp only [decide_eq_true_eq] at h14; simp at h10; exact ⟨by omega, take_nxI (d := 0) (by omega) (by omega) hI.2 (by simpa using h25)⟩
        · simp at h14; omega
        exact Can.weak (Weak.lit (by simp only [go_sem, seval, inR_len, inR_pure, subM, leV, inns, innr, V.inn, us, true_or, or_true] <;> (rw [wrap64 (by simp at h14; omega) (by simp at h14; omega)]; simp)) (by simp only [go_sem, seval, inR_len, inR_pure, subM, leV, inns, innr, V.inn, us, true_or, or_true]) (by simp only [go_sem, seval, inR_len, inR_pure, subM, leV, inns, innr, V.inn, us, true_or, or_true]))
    · refine AWp.exit ?_
      refine AWp.seq ?_
      refine AWp.rgn [] (by simp only [go_sem, seval, inR_len, inR_pure]; rfl) ?_ ?_
      · (first | trivial | (simp; done))
      refine AWp.ret (And.intro (.inr rfl) ?_)
      exact Out.plain (by simp only [Tryz.results51]; rfl) (by simp only [resCs, resC, go_sem, seval, inR_len, inR_pure] <;> (split <;> rfl)) (by simp only [resV, go_sem, seval, inR_len, inR_pure] <;> (simp only [decide_eq_false_iff_not] at h14; simp at h10; have q := hI.2; rw [List.take_of_length_le (by omega), List.take_of_length_le (by omega)] at q; simp [q])) (by simp only [go_sem, seval, inR_len, inR_pure])
def seqI (k : Int) (n : Nat) : List Int := (List.range n).map fun (i : Nat) => k + (i : Int)
theorem seqI_len (k : Int) (n : Nat) : (seqI k n).length = n := by simp [seqI]
theorem seqI_get {k : Int} {n i : Nat} (h : i < n) : (seqI k n).getD i 0 = k + i := by
  simp [seqI, List.getD_eq_getElem?_getD, h]
theorem seqI_step {k : Int} {l : List Int} {i : Nat} (h : i < l.length) : (inR (seqI k i ++ l.drop i)).set i (.i .i64 (k + i) :: ((inR (seqI k i ++ l.drop i)).getD i []).drop 1) = inR (seqI k (i + 1) ++ l.drop (i + 1)) := by
  rw [inR_get (by rw [List.length_append, seqI_len, List.length_drop]; omega)]
  have e : (seqI k i ++ l.drop i).set i (k + i) = seqI k (i + 1) ++ l.drop (i + 1) := by
    rw [List.set_append_right _ _ (by rw [seqI_len]; exact Nat.le_refl _), seqI_len, Nat.sub_self, List.drop_eq_getElem_cons h, List.set_cons_zero]
    simp [seqI, List.range_succ]
  rw [← e]
  simp only [inR, List.map_set, List.drop_succ_cons, List.drop_nil]
theorem markIntS_a (l : List Int) (k : Int) (hl : l.length ≤ 1000000) (h0 : 0 ≤ k) (h1 : k ≤ 1000000) : ACall En 52 [.ow 0 1 0 l.length, .i .i64 k] [⟨3, 1, inR l⟩] [.i .i64 (k + l.length)] [⟨3, 1, inR (seqI k l.length)⟩] := by
  refine acall_of_body (fn := Tryz.f52) [0] Tryz.func52 rfl rfl (by simp) fun C => ?_
  rw [entry_eq]
  simp only [Tryz.ntmps52, List.length_cons, List.length_nil, Nat.reduceAdd, Nat.reduceSub, List.replicate_succ, List.replicate_zero, List.cons_append, List.nil_append, numL]
  refine AWp.seq ?_
  refine AWp.rgn [] (by simp only [go_sem, seval, inR_len, inR_pure]; rfl) ?_ ?_
  · (first | trivial | (simp; done) | (simp only [decide_eq_true_eq] at h9; simp [inR_len, seqI_len]; omega))
  refine AWp.seq ?_
  refine AWp.seq ?_
  refine AWp.rgn [] (by simp only [go_sem, seval, inR_len, inR_pure]; rfl) ?_ ?_
  · (first | trivial | (simp; done) | (simp only [decide_eq_true_eq] at h9; simp [inR_len, seqI_len]; omega))
  refine AWp.block ?_
  refine AWp.loopK (fun i : Nat => ⟨[.ow 0 1 0 l.length, .i .i64 (k + i), .no, .no, .no, .i .i64 i, .no, .no, .no, .no, .no, .no, .no, .no, .no, .no, .no, .no, .no], memOf [(0, ⟨3, 1, inR (seqI k i ++ l.drop i)⟩)], us [0]⟩) (fun i : Nat => i ≤ l.length) (fun i : Nat => l.length - i) (0) ?_ ?_ (fun i hI => ?_)
  · simp
  · exact Can.weak (Weak.lit (by simp only [go_sem, seval, inR_len, inR_pure, subM, leV, inns, innr, V.inn, us, true_or, or_true] <;> ((try simp))) (by simp only [go_sem, seval, inR_len, inR_pure, subM, leV, inns, innr, V.inn, us, true_or, or_true]) (by simp only [go_sem, seval, inR_len, inR_pure, subM, leV, inns, innr, V.inn, us, true_or, or_true] <;> ((try simp [seqI]))))
  refine AWp.seq ?_
  refine AWp.seq ?_
  refine AWp.rgn [] (by simp only [go_sem, seval, inR_len, inR_pure]; rfl) ?_ ?_
  · (first | trivial | (simp; done) | (simp only [decide_eq_true_eq] at h9; simp [inR_len, seqI_len]; omega))
  refine AWp.condB (by simp only [go_sem, seval, inR_len, inR_pure]; rfl) (by simp only [go_sem, seval, inR_len, inR_pure]) (fun h9 => ?_) (fun h9 => ?_)
  · refine AWp.skip ?_
    refine AWp.seq ?_
    refine AWp.block ?_
    refine AWp.seq ?_
    refine AWp.rgn [] (by simp only [go_sem, seval, inR_len, inR_pure]; rfl) ?_ ?_
    · (first | trivial | (simp; done) | (simp only [decide_eq_true_eq] at h9; simp [inR_len, seqI_len]; omega))
    refine AWp.rgn [] (by simp only [go_sem, seval, inR_len, inR_pure]; rfl) ?_ ?_
    · (first | trivial | (simp; done) | (simp only [decide_eq_true_eq] at h9; simp [inR_len, seqI_len]; omega))
    refine AWp.rgn [] (by simp only [go_sem, seval, inR_len, inR_pure]; rfl) ?_ ?_
    · (first | trivial | (simp; done) | (simp only [decide_eq_true_eq] at h9; simp [inR_len, seqI_len]; omega))
    refine Exists.intro (i + 1) ⟨?_, ?_, ?_⟩
    · simp only [decide_eq_true_eq] at h9; omega
    · simp only [decide_eq_true_eq] at h9; omega
    exact Can.weak (Weak.lit (by simp only [go_sem, seval, inR_len, inR_pure, subM, leV, inns, innr, V.inn, us, true_or, or_true] <;> (simp only [decide_eq_true_eq] at h9; exact ⟨by rw [wrap64 (by omega) (by omega)]; omega, wrap64 (n := ((i + 1 : Nat) : Int)) (by omega) (by omega)⟩)) (by simp only [go_sem, seval, inR_len, inR_pure, subM, leV, inns, innr, V.inn, us, true_or, or_true]) (by simp only [go_sem, seval, inR_len, inR_pure, subM, leV, inns, innr, V.inn, us, true_or, or_true] <;> (simp only [decide_eq_true_eq] at h9; rw [seqI_step (show i < l.length by omega)])))
  · refine AWp.exit ?_
    refine AWp.seq ?_
    refine AWp.rgn [] (by simp only [go_sem, seval, inR_len, inR_pure]; rfl) ?_ ?_
    · (first | trivial | (simp; done) | (simp only [decide_eq_true_eq] at h9; simp [inR_len, seqI_len]; omega))
    refine AWp.ret (And.intro (.inr rfl) ?_)
    exact Out.mem' (by simp only [Tryz.results52]; rfl) (by simp only [resCs, resC, go_sem, seval, inR_len, inR_pure]) (by simp only [resV, rns, rn, go_sem, seval, inR_len, inR_pure] <;> (simp only [decide_eq_false_iff_not] at h9; rw [show (i : Int) = l.length by omega])) (by simp) rfl (by decide) (by simp only [go_sem, seval, inR_len, inR_pure]) (by simp only [clrs, go_sem, seval, inR_len, inR_pure]) (by simp only [memEq, go_sem, seval, inR_len, inR_pure] <;> (simp only [decide_eq_false_iff_not] at h9; rw [show i = l.length by omega]; simp))
theorem heldIntS_a (n : Nat) (k : Int) (hl : n ≤ 1000000) (h0 : 0 ≤ k) (h1 : k ≤ 1000000) : ACall En 53 [.sl false (inR (seqI k n)), .i .i64 k] [] [.i .i64 (k + n)] [] := by
  refine acall_of_body (fn := Tryz.f53) [] Tryz.func53 rfl rfl (by simp) fun C => ?_
  rw [entry_eq]
  simp only [Tryz.ntmps53, List.length_cons, List.length_nil, Nat.reduceAdd, Nat.reduceSub, List.replicate_succ, List.replicate_zero, List.cons_append, List.nil_append, numL]
  refine AWp.seq ?_
  refine AWp.rgn [] (by simp only [go_sem, seval, inR_len, inR_pure, seqI_len]; rfl) ?_ ?_
  · (first | trivial | (simp; done) | (simp only [decide_eq_true_eq] at h9; simp [inR_len, seqI_len]; omega))
  refine AWp.seq ?_
  refine AWp.seq ?_
  refine AWp.rgn [] (by simp only [go_sem, seval, inR_len, inR_pure, seqI_len]; rfl) ?_ ?_
  · (first | trivial | (simp; done) | (simp only [decide_eq_true_eq] at h9; simp [inR_len, seqI_len]; omega))
  refine AWp.block ?_
  refine AWp.loopK (fun i : Nat => ⟨[.sl false (inR (seqI k n)), .i .i64 (k + i), .no, .no, .no, .i .i64 i, .no, .no, .no, .no, .no, .no, .no, .no, .no, .no, .no, .no, .no, .no, .no], memOf [], us []⟩) (fun i : Nat => i ≤ n) (fun i : Nat => n - i) (0) ?_ ?_ (fun i hI => ?_)
  · simp
  · exact Can.weak (Weak.lit (by simp only [go_sem, seval, inR_len, inR_pure, seqI_len, subM, leV, inns, innr, V.inn, us, true_or, or_true] <;> ((try simp))) (by simp only [go_sem, seval, inR_len, inR_pure, seqI_len, subM, leV, inns, innr, V.inn, us, true_or, or_true]) (by simp only [go_sem, seval, inR_len, inR_pure, seqI_len, subM, leV, inns, innr, V.inn, us, true_or, or_true]))
  refine AWp.seq ?_
  refine AWp.seq ?_
  refine AWp.rgn [] (by simp only [go_sem, seval, inR_len, inR_pure, seqI_len]; rfl) ?_ ?_
  · (first | trivial | (simp; done) | (simp only [decide_eq_true_eq] at h9; simp [inR_len, seqI_len]; omega))
  refine AWp.condB (by simp only [go_sem, seval, inR_len, inR_pure, seqI_len]; rfl) (by simp only [go_sem, seval, inR_len, inR_pure, seqI_len]) (fun h9 => ?_) (fun h9 => ?_)
  · refine AWp.skip ?_
    refine AWp.seq ?_
    refine AWp.block ?_
    refine AWp.seq ?_
    refine AWp.seq ?_
    refine AWp.rgn [] (by simp only [go_sem, seval, inR_len, inR_pure, seqI_len, inR_get (show i < (seqI k n).length by rw [seqI_len]; simpa using h9), seqI_get (show i < n by simpa using h9)]; rfl) ?_ ?_
    · (first | trivial | (simp; done) | (simp only [decide_eq_true_eq] at h9; simp [inR_len, seqI_len]; omega))
    refine AWp.condB (by simp only [go_sem, seval, inR_len, inR_pure, seqI_len]; rfl) (by simp only [go_sem, seval, inR_len, inR_pure, seqI_len]) (fun h17 => ?_) (fun h17 => ?_)
    · simp at h17
    · refine AWp.skip ?_
      refine AWp.rgn [] (by simp only [go_sem, seval, inR_len, inR_pure, seqI_len]; rfl) ?_ ?_
      · (first | trivial | (simp; done) | (simp only [decide_eq_true_eq] at h9; simp [inR_len, seqI_len]; omega))
      refine AWp.rgn [] (by simp only [go_sem, seval, inR_len, inR_pure, seqI_len]; rfl) ?_ ?_
      · (first | trivial | (simp; done) | (simp only [decide_eq_true_eq] at h9; simp [inR_len, seqI_len]; omega))
      refine Exists.intro (i + 1) ⟨?_, ?_, ?_⟩
      · simp only [decide_eq_true_eq] at h9; omega
      · simp only [decide_eq_true_eq] at h9; omega
      exact Can.weak (Weak.lit (by simp only [go_sem, seval, inR_len, inR_pure, seqI_len, subM, leV, inns, innr, V.inn, us, true_or, or_true] <;> (simp only [decide_eq_true_eq] at h9; exact ⟨by rw [wrap64 (by omega) (by omega)]; omega, wrap64 (n := ((i + 1 : Nat) : Int)) (by omega) (by omega)⟩)) (by simp only [go_sem, seval, inR_len, inR_pure, seqI_len, subM, leV, inns, innr, V.inn, us, true_or, or_true]) (by simp only [go_sem, seval, inR_len, inR_pure, seqI_len, subM, leV, inns, innr, V.inn, us, true_or, or_true]))
  · refine AWp.exit ?_
    refine AWp.seq ?_
    refine AWp.rgn [] (by simp only [go_sem, seval, inR_len, inR_pure, seqI_len]; rfl) ?_ ?_
    · (first | trivial | (simp; done) | (simp only [decide_eq_true_eq] at h9; simp [inR_len, seqI_len]; omega))
    refine AWp.ret (And.intro (.inr rfl) ?_)
    exact Out.plain (by simp only [Tryz.results53]; rfl) (by simp only [resCs, resC, go_sem, seval, inR_len, inR_pure, seqI_len] <;> (split <;> rfl)) (by simp only [resV, go_sem, seval, inR_len, inR_pure, seqI_len] <;> (simp only [decide_eq_false_iff_not] at h9; rw [show (i : Int) = n by omega])) (by simp only [go_sem, seval, inR_len, inR_pure, seqI_len])
end

section
set_option maxRecDepth 100000
set_option maxHeartbeats 4000000

theorem sBareTxt_a (b : Bl) (hs : smb b = true) : ACall En 43 [.ag (bC b)] [] [.s (btxt b)] [] := by
  refine acall_of_body (fn := Tryz.f43) [] Tryz.func43 rfl rfl (by simp) fun C => ?_
  rw [entry_eq]
  simp only [Tryz.ntmps43, List.length_cons, List.length_nil, Nat.reduceAdd, Nat.reduceSub, List.replicate_succ, List.replicate_zero, List.cons_append, List.nil_append, numL]
  refine AWp.seq ?_
  refine AWp.rgn [] (by simp only [go_sem, seval, bC_eq, strR_pure]; rfl) ?_ ?_
  · (first | trivial | (simp; done))
  refine AWp.seq ?_
  refine AWp.seq ?_
  refine AWp.rgn [call0 (sBareOk_a b hs)] (by simp only [go_sem, seval, bC_eq, strR_pure]; rfl) ?_ ?_
  · (first | trivial | (simp; done))
  refine AWp.condB (by simp only [go_sem, seval, bC_eq, strR_pure]; rfl) (by simp only [go_sem, seval, bC_eq, strR_pure]) (fun h5 => ?_) (fun h5 => ?_)
  · refine AWp.seq ?_
    refine AWp.rgn [] (by simp only [go_sem, seval, bC_eq, strR_pure]; rfl) ?_ ?_
    · (first | trivial | (simp; done))
    refine AWp.ret (And.intro (.inr rfl) ?_)
    exact Out.plain (by simp only [Tryz.results43]; rfl) (by simp only [resCs, resC, go_sem, seval, bC_eq, strR_pure] <;> (split <;> rfl)) (by simp only [resV, go_sem, seval, bC_eq, strR_pure] <;> (simp at h5; simp [btxt, h5])) (by simp only [go_sem, seval, bC_eq, strR_pure])
  · refine AWp.skip ?_
    refine AWp.seq ?_
    refine AWp.rgn [callI (bok b = true) (fun h => l7Words_a b (bok_0 h) hs), callI (bok b = true) (fun h => sTokText_a (bw b) (by have := (bw_le (bok_0 h)).1; omega) (by have := bw_text (bok_0 h); omega))] (by simp only [go_sem, seval, bC_eq, strR_pure]; rfl) ?_ ?_
    · simp at h5; simp [h5]
    refine AWp.ret (And.intro (.inr rfl) ?_)
    exact Out.plain (by simp only [Tryz.results43]; rfl) (by simp only [resCs, resC, go_sem, seval, bC_eq, strR_pure] <;> (split <;> rfl)) (by simp only [resV, go_sem, seval, bC_eq, strR_pure] <;> (simp at h5; simp [btxt, h5])) (by simp only [go_sem, seval, bC_eq, strR_pure])
theorem DrawBareText_a (b : Str) : ACall En 41 [.sl false (byR b)] [] [.ag (bC (d7 (b.take 2000) 0).1)] [] := by
  refine acall_of_body (fn := Tryz.f41) [] Tryz.func41 rfl rfl (by simp) fun C => ?_
  rw [entry_eq]
  simp only [Tryz.ntmps41, List.length_cons, List.length_nil, Nat.reduceAdd, Nat.reduceSub, List.replicate_succ, List.replicate_zero, List.cons_append, List.nil_append, numL]
  refine AWp.seq ?_
  refine AWp.rgn [] (by simp only [go_sem, seval, memEq, clrs, bC_eq]; rfl) ?_ ?_
  · (first | trivial | (simp; done))
  refine AWp.seq ?_
  refine AWp.rgn [callN [] [14] (l12Open_a b), callN [14] [] (l7Bent_a (b.take 2000) 0 (by simp; omega) (by decide) (by decide))] (by simp only [go_sem, seval, memEq, clrs, bC_eq]; rfl) ?_ ?_
  · (first | trivial | (simp; done))
  refine AWp.ret (And.intro (.inr rfl) ?_)
  exact Out.plain (by simp only [Tryz.results41]; rfl) (by simp only [resCs, resC, go_sem, seval, memEq, clrs, bC_eq] <;> (split <;> rfl)) (by simp only [resV, go_sem, seval, memEq, clrs, bC_eq] <;> (rfl)) (by simp only [go_sem, seval, memEq, clrs, bC_eq])
def torn (b : Str) (p : Int) (l : List Str) (s : Str) : Str :=
  s.take (pickI b p s.length).toNat ++ ofI b (p + 1) l ++ s.drop ((pickI b p s.length).toNat + (pickI b (p + 1 + 1) 2).toNat)
theorem torn_p {b : Str} {p : Int} {s : Str} (h0 : ((s.length : Int) == 0) = false) (hp : 0 ≤ p) (hp2 : p < 1000000000) (hs : s.length ≤ 1000000) :
    0 ≤ pickI b p s.length ∧ pickI b p s.length ≤ s.length ∧ IntKind.i64.wrap (pickI b p s.length + pickI b (p + 1 + 1) 2) = pickI b p s.length + pickI b (p + 1 + 1) 2 ∧ 0 ≤ pickI b p s.length + pickI b (p + 1 + 1) 2 ∧ pickI b p s.length + pickI b (p + 1 + 1) 2 ≤ s.length ∧ (pickI b p s.length + pickI b (p + 1 + 1) 2).toNat = (pickI b p s.length).toNat + (pickI b (p + 1 + 1) 2).toNat ∧ (s.take (pickI b p s.length).toNat).length ≤ s.length := by
  rw [beq_eq_false_iff_ne] at h0
  have h1 := pickI_le b (p := p) (n := s.length) hp (by omega) (by omega)
  have h2 := pickI_le b (p := p + 1 + 1) (n := 2) (by omega) (by omega) (by decide)
  refine ⟨h1.1, by omega, wrap64 (by omega) (by omega), by omega, by omega, by omega, by simp; omega⟩
theorem torn_len {b : Str} {p : Int} {l : List Str} {s : Str} (k : Nat) (hl : 0 < l.length) (h : ∀ w ∈ l, w.length ≤ k) (hp : 0 ≤ p) (hp2 : p < 1000000000) : (torn b p l s).length ≤ s.length + k + s.length := by
  have := of_len (b := b) (p := p + 1) hl (by omega) (by omega) k h
  unfold torn
  simp only [List.length_append, List.length_take, List.length_drop]; omega
def tearB : List Str := [[], [32], [49], [112, 114, 105, 110, 116, 32], [40], [120], [63], [58]]
def dBRd (b : Str) : Str :=
  if btxt (d7 b 0).1 = [] ∨ pickI b (d7 b 0).2 2 = 0 then btxt (d7 b 0).1 else torn b ((d7 b 0).2 + 1) tearB (btxt (d7 b 0).1)
theorem btxt_le (b : Bl) : (btxt b).length ≤ 120 := by
  unfold btxt; split
  · rename_i h; exact (bok_open h).1
  · simp
theorem DrawBareRead_f (c : Str) (h0 : (((btxt (d7 (c.take 2000) 0).1).length : Int) == 0) = false) : ACall En 46 [.sl false (byR c)] [] [.s (dBRd (c.take 2000))] [] := by
  have hb : (c.take 2000).length ≤ 2000 := by simp; omega
  have hO := l12Open_a c
  generalize hc : c.take 2000 = b at *
  obtain ⟨h1, h2, h3⟩ := d7_p b (p := 0) (by decide) (by decide)
  have k1 := btxt_le (d7 b 0).1
  have T := sBareTxt_a (d7 b 0).1 h3
  have D := l7Bent_a b 0 hb (by decide) (by decide)
  have hd : dBRd b = if btxt (d7 b 0).1 = [] ∨ pickI b (d7 b 0).2 2 = 0 then btxt (d7 b 0).1 else torn b ((d7 b 0).2 + 1) tearB (btxt (d7 b 0).1) := rfl
  generalize (d7 b 0).1 = x at *
  generalize (d7 b 0).2 = p at *
  generalize btxt x = s at *
  refine acall_of_body (fn := Tryz.f46) [] Tryz.func46 rfl rfl (by simp) fun C => ?_
  rw [entry_eq]
  simp only [Tryz.ntmps46, List.length_cons, List.length_nil, Nat.reduceAdd, Nat.reduceSub, List.replicate_succ, List.replicate_zero, List.cons_append, List.nil_append, numL]
  refine AWp.seq ?_
  refine AWp.rgn [] (by simp only [go_sem, seval, memEq, clrs, bC_eq, h0]; rfl) ?_ ?_
  · (first | trivial | (simp; done) | (obtain ⟨q1, q2, q3, q4, q5, q6, q7⟩ := torn_p (b := b) (p := p + 1) h0 (by omega) (by omega) (by omega); have q8 := of_len (b := b) (p := p + 1 + 1) (l := tearB) (by decide) (by omega) (by omega) 6 (by decide); rw [q3]; refine ⟨⟨⟨⟨⟨⟨q1, q2, Int.le_refl _, by simp⟩, by simp [tearB, strR, ler, les, leV], by simp⟩, by omega⟩, by simp⟩, q4, q5, Int.le_refl _⟩, ?_⟩; simp only [List.length_append, List.length_drop, List.length_take] at q7 ⊢; omega))
  refine AWp.seq ?_
  refine AWp.rgn [callN [] [17] hO] (by simp only [go_sem, seval, memEq, clrs, bC_eq, h0]; rfl) ?_ ?_
  · (first | trivial | (simp; done) | (obtain ⟨q1, q2, q3, q4, q5, q6, q7⟩ := torn_p (b := b) (p := p + 1) h0 (by omega) (by omega) (by omega); have q8 := of_len (b := b) (p := p + 1 + 1) (l := tearB) (by decide) (by omega) (by omega) 6 (by decide); rw [q3]; refine ⟨⟨⟨⟨⟨⟨q1, q2, Int.le_refl _, by simp⟩, by simp [tearB, strR, ler, les, leV], by simp⟩, by omega⟩, by simp⟩, q4, q5, Int.le_refl _⟩, ?_⟩; simp only [List.length_append, List.length_drop, List.length_take] at q7 ⊢; omega))
  refine AWp.seq ?_
  refine AWp.rgn [callN [17] [] D, call0 T] (by simp only [go_sem, seval, memEq, clrs, bC_eq, h0]; rfl) ?_ ?_
  · (first | trivial | (simp; done) | (obtain ⟨q1, q2, q3, q4, q5, q6, q7⟩ := torn_p (b := b) (p := p + 1) h0 (by omega) (by omega) (by omega); have q8 := of_len (b := b) (p := p + 1 + 1) (l := tearB) (by decide) (by omega) (by omega) 6 (by decide); rw [q3]; refine ⟨⟨⟨⟨⟨⟨q1, q2, Int.le_refl _, by simp⟩, by simp [tearB, strR, ler, les, leV], by simp⟩, by omega⟩, by simp⟩, q4, q5, Int.le_refl _⟩, ?_⟩; simp only [List.length_append, List.length_drop, List.length_take] at q7 ⊢; omega))
  refine AWp.seq ?_
  refine AWp.seq ?_
  refine AWp.rgn [callN [17] [] (pick_a b p 2 hb (by omega) (by omega))] (by simp only [go_sem, seval, memEq, clrs, bC_eq, h0]; rfl) ?_ ?_
  · (first | trivial | (simp; done) | (obtain ⟨q1, q2, q3, q4, q5, q6, q7⟩ := torn_p (b := b) (p := p + 1) h0 (by omega) (by omega) (by omega); have q8 := of_len (b := b) (p := p + 1 + 1) (l := tearB) (by decide) (by omega) (by omega) 6 (by decide); rw [q3]; refine ⟨⟨⟨⟨⟨⟨q1, q2, Int.le_refl _, by simp⟩, by simp [tearB, strR, ler, les, leV], by simp⟩, by omega⟩, by simp⟩, q4, q5, Int.le_refl _⟩, ?_⟩; simp only [List.length_append, List.length_drop, List.length_take] at q7 ⊢; omega))
  refine AWp.condB (by simp only [go_sem, seval, memEq, clrs, bC_eq, h0]; rfl) (by simp only [go_sem, seval, memEq, clrs, bC_eq, h0]) (fun h18 => ?_) (fun h18 => ?_)
  · refine AWp.seq ?_
    refine AWp.rgn [] (by simp only [go_sem, seval, memEq, clrs, bC_eq, h0]; rfl) ?_ ?_
    · (first | trivial | (simp; done) | (obtain ⟨q1, q2, q3, q4, q5, q6, q7⟩ := torn_p (b := b) (p := p + 1) h0 (by omega) (by omega) (by omega); have q8 := of_len (b := b) (p := p + 1 + 1) (l := tearB) (by decide) (by omega) (by omega) 6 (by decide); rw [q3]; refine ⟨⟨⟨⟨⟨⟨q1, q2, Int.le_refl _, by simp⟩, by simp [tearB, strR, ler, les, leV], by simp⟩, by omega⟩, by simp⟩, q4, q5, Int.le_refl _⟩, ?_⟩; simp only [List.length_append, List.length_drop, List.length_take] at q7 ⊢; omega))
    refine AWp.ret (And.intro (.inr rfl) ?_)
    exact Out.plain (by simp only [Tryz.results46]; rfl) (by simp only [resCs, resC, go_sem, seval, memEq, clrs, bC_eq, h0] <;> (split <;> rfl)) (by simp only [resV, go_sem, seval, memEq, clrs, bC_eq, h0] <;> (rw [hd, if_pos (.inr (by simpa using h18))])) (by simp only [go_sem, seval, memEq, clrs, bC_eq, h0])
  · refine AWp.skip ?_
    refine AWp.seq ?_
    refine AWp.rgn [callN [17] [] (pick_a b (p + 1) s.length hb (by omega) (by omega))] (by simp only [go_sem, seval, memEq, clrs, bC_eq, h0]; rfl) ?_ ?_
    · (first | trivial | (simp; done) | (obtain ⟨q1, q2, q3, q4, q5, q6, q7⟩ := torn_p (b := b) (p := p + 1) h0 (by omega) (by omega) (by omega); have q8 := of_len (b := b) (p := p + 1 + 1) (l := tearB) (by decide) (by omega) (by omega) 6 (by decide); rw [q3]; refine ⟨⟨⟨⟨⟨⟨q1, q2, Int.le_refl _, by simp⟩, by simp [tearB, strR, ler, les, leV], by simp⟩, by omega⟩, by simp⟩, q4, q5, Int.le_refl _⟩, ?_⟩; simp only [List.length_append, List.length_drop, List.length_take] at q7 ⊢; omega))
    refine AWp.seq ?_
    refine AWp.rgnD [callN [17] [] (of_a b (p + 1 + 1) tearB (by decide) hb (by omega) (by omega)), callN [17] [] (pick_a b (p + 1 + 1 + 1) 2 hb (by omega) (by omega))] enM (by simp only [go_sem, seval, memEq, clrs, bC_eq, h0]; rfl) (by rfl) ?_ ?_
    · (first | trivial | (simp; done) | (obtain ⟨q1, q2, q3, q4, q5, q6, q7⟩ := torn_p (b := b) (p := p + 1) h0 (by omega) (by omega) (by omega); have q8 := of_len (b := b) (p := p + 1 + 1) (l := tearB) (by decide) (by omega) (by omega) 6 (by decide); rw [q3]; refine ⟨⟨⟨⟨⟨⟨q1, q2, Int.le_refl _, by simp⟩, by simp [tearB, strR, ler, les, leV], by simp⟩, by omega⟩, by simp⟩, q4, q5, Int.le_refl _⟩, ?_⟩; simp only [List.length_append, List.length_drop, List.length_take] at q7 ⊢; omega))
    refine AWp.ret (And.intro (.inr rfl) ?_)
    exact Out.plain (by simp only [Tryz.results46]; rfl) (by simp only [resCs, resC, go_sem, seval, memEq, clrs, bC_eq, h0] <;> (split <;> rfl)) (by simp only [resV, go_sem, seval, memEq, clrs, bC_eq, h0] <;> (rw [hd, if_neg (by rw [beq_eq_false_iff_ne] at h0 h18; rintro (h | h); exact h0 (by rw [h]; rfl); exact h18 h), torn, (torn_p (b := b) (p := p + 1) h0 (by omega) (by omega) (by omega)).2.2.1, (torn_p (b := b) (p := p + 1) h0 (by omega) (by omega) (by omega)).2.2.2.2.2.1, List.take_length])) (by simp only [go_sem, seval, memEq, clrs, bC_eq, h0])
theorem DrawBareRead_t (c : Str) (h0 : (((btxt (d7 (c.take 2000) 0).1).length : Int) == 0) = true) : ACall En 46 [.sl false (byR c)] [] [.s (dBRd (c.take 2000))] [] := by
  have hb : (c.take 2000).length ≤ 2000 := by simp; omega
  have hO := l12Open_a c
  generalize hc : c.take 2000 = b at *
  obtain ⟨h1, h2, h3⟩ := d7_p b (p := 0) (by decide) (by decide)
  have k1 := btxt_le (d7 b 0).1
  have T := sBareTxt_a (d7 b 0).1 h3
  have D := l7Bent_a b 0 hb (by decide) (by decide)
  have hd : dBRd b = if btxt (d7 b 0).1 = [] ∨ pickI b (d7 b 0).2 2 = 0 then btxt (d7 b 0).1 else torn b ((d7 b 0).2 + 1) tearB (btxt (d7 b 0).1) := rfl
  generalize (d7 b 0).1 = x at *
  generalize (d7 b 0).2 = p at *
  generalize btxt x = s at *
  refine acall_of_body (fn := Tryz.f46) [] Tryz.func46 rfl rfl (by simp) fun C => ?_
  rw [entry_eq]
  simp only [Tryz.ntmps46, List.length_cons, List.length_nil, Nat.reduceAdd, Nat.reduceSub, List.replicate_succ, List.replicate_zero, List.cons_append, List.nil_append, numL]
  refine AWp.seq ?_
  refine AWp.rgn [] (by simp only [go_sem, seval, memEq, clrs, bC_eq, h0]; rfl) ?_ ?_
  · (first | trivial | (simp; done))
  refine AWp.seq ?_
  refine AWp.rgn [callN [] [17] hO] (by simp only [go_sem, seval, memEq, clrs, bC_eq, h0]; rfl) ?_ ?_
  · (first | trivial | (simp; done))
  refine AWp.seq ?_
  refine AWp.rgn [callN [17] [] D, call0 T] (by simp only [go_sem, seval, memEq, clrs, bC_eq, h0]; rfl) ?_ ?_
  · (first | trivial | (simp; done))
  refine AWp.seq ?_
  refine AWp.seq ?_
  refine AWp.rgn [callN [17] [] (pick_a b p 2 hb (by omega) (by omega))] (by simp only [go_sem, seval, memEq, clrs, bC_eq, h0]; rfl) ?_ ?_
  · (first | trivial | (simp; done))
  refine AWp.condB (by simp only [go_sem, seval, memEq, clrs, bC_eq, h0]; rfl) (by simp only [go_sem, seval, memEq, clrs, bC_eq, h0]) (fun h18 => ?_) (fun h18 => ?_)
  · refine AWp.seq ?_
    refine AWp.rgn [] (by simp only [go_sem, seval, memEq, clrs, bC_eq, h0]; rfl) ?_ ?_
    · (first | trivial | (simp; done))
    refine AWp.ret (And.intro (.inr rfl) ?_)
    exact Out.plain (by simp only [Tryz.results46]; rfl) (by simp only [resCs, resC, go_sem, seval, memEq, clrs, bC_eq, h0] <;> (split <;> rfl)) (by simp only [resV, go_sem, seval, memEq, clrs, bC_eq, h0] <;> (rw [hd, if_pos (.inl (by cases s with | nil => rfl | cons x r => rw [beq_iff_eq, List.length_cons] at h0; omega))])) (by simp only [go_sem, seval, memEq, clrs, bC_eq, h0])
  · simp at h18
theorem DrawBareRead_a (c : Str) : ACall En 46 [.sl false (byR c)] [] [.s (dBRd (c.take 2000))] [] := by
  cases h0 : (((btxt (d7 (c.take 2000) 0).1).length : Int) == 0) with
  | true => exact DrawBareRead_t c h0
  | false => exact DrawBareRead_f c h0
theorem dBRd_len (b : Str) : (dBRd b).length ≤ 1000 := by
  obtain ⟨h1, h2, h3⟩ := d7_p b (p := 0) (by decide) (by decide)
  have k1 := btxt_le (d7 b 0).1
  unfold dBRd
  split
  · omega
  · have := torn_len (b := b) (p := (d7 b 0).2 + 1) (l := tearB) (s := btxt (d7 b 0).1) 6 (by decide) (by decide) (by omega) (by omega)
    omega
end
end Go.Proofs.YteihfmnmpdbkiaaGreatDoor
