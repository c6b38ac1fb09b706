/- Parts of the proof, one after another: What a line is turned into, the reference's: words with their places. | What a line is turned into, the reference's. | Whence the words of a line came: by numbers and by places it is the same. | What a line is turned into, and whence each word came: the program's and the reference's. | EmitLine, the program's; what the laws of lines that are turned use of it. Conditions: none. -/
import Derived.Test.YteihfmnmpdbkiaaGreatDoorKl
import Derived.Test.YteihfmnmpdbkiaaGreatDoorKx
import Derived.Test.YteihfmnmpdbkiaaGreatDoorKn
import Derived.Test.YteihfmnmpdbkiaaGreatDoorKd
import Derived.Test.YteihfmnmpdbkiaaGreatDoorKi
import Derived.Test.YteihfmnmpdbkiaaGreatDoorKb
set_option linter.unusedVariables false
set_option linter.unusedSimpArgs false
namespace Go.Proofs.YteihfmnmpdbkiaaGreatDoor
section
set_option maxRecDepth 100000
set_option maxHeartbeats 4000000

theorem widW_take {l : Wd} {k : Nat} (h : k < l.length) : widW (l.take (k + 1)) = widW (l.take k) + ((l.getD k ([], 0)).1.length + 1) := by
  have e : l.take (k + 1) = l.take k ++ [l.getD k ([], 0)] := by
    rw [List.take_add_one, List.getElem?_eq_getElem h, List.getD_eq_getElem?_getD, List.getElem?_eq_getElem h]; rfl
  rw [e, widW_app, widW_cons, widW_nil]; omega
theorem widW_sub (l : Wd) (k : Nat) : widW (l.take k) ≤ widW l := by
  conv => rhs; rw [← List.take_append_drop k l]
  have := widW_pos (l.drop k)
  rw [widW_app]; omega
theorem cols_get {l : Wd} {k : Nat} (h : k < l.length) : (colsOf 0 (l.map (·.1))).getD k 0 = widW (l.take k) := by
  rw [colsOf_at _ _ (by simpa using h), widW, List.map_take]; omega
theorem columns_a (l : Wd) (hl : l.length ≤ 1000000) (hw : widW l < 1099511627776) : ACall En 136 [.sl false (wdR l)] [] [.sl false (inR (colsOf 0 (l.map (·.1))))] [] := by
  have hp : ∀ k, purer (filR (inR (colsOf 0 (l.map (·.1)))) [.i .i64 0] k) = true := fun k => filR_pure (inR_pure _) rfl
  have hll : (inR (colsOf 0 (l.map (·.1)))).length = l.length := by rw [inR_len, colsOf_len, List.length_map]
  have hd1 : ∀ k j, ((filR (inR (colsOf 0 (l.map (·.1)))) [.i .i64 0] k).getD j []).drop 1 = [] := filR_one _ _ (fun r hr => inR_one hr) rfl
  refine acall_of_body (fn := Tryz.f136) [] Tryz.func136 rfl rfl (by simp) fun C => ?_
  rw [entry_eq]
  simp only [Tryz.ntmps136, List.length_cons, List.length_nil, Nat.reduceAdd, Nat.reduceSub, List.replicate_succ, List.replicate_zero, List.cons_append, List.nil_append, numL]
  refine AWp.seq ?_
  refine AWp.rgn [] (by simp only [go_sem, seval, wdR_len, wdR_pure, inR_pure, hp, hd1, filR_len, hll]; rfl) ?_ ?_
  · (first | trivial)
  refine AWp.seq ?_
  refine AWp.rgn [] (by simp only [go_sem, seval, wdR_len, wdR_pure, inR_pure, hp, hd1, filR_len, hll]; rfl) ?_ ?_
  · simp; omega
  refine AWp.seq ?_
  refine AWp.rgn [] (by simp only [go_sem, seval, wdR_len, wdR_pure, inR_pure, hp, hd1, filR_len, hll]; rfl) ?_ ?_
  · (first | trivial)
  refine AWp.seq ?_
  refine AWp.seq ?_
  refine AWp.rgn [] (by simp only [go_sem, seval, wdR_len, wdR_pure, inR_pure, hp, hd1, filR_len, hll]; rfl) ?_ ?_
  · (first | trivial)
  refine AWp.block ?_
  refine AWp.loopK (fun k : Nat => ⟨[.no, .no, .no, .ow 19 1 0 l.length, .i .i64 (widW (l.take k)), .no, .no, .no, .no, .no, .sl false (wdR l), .i .i64 l.length, .i .i64 k, .no, .no, .no, .no, .no, .no, .no, .no, .no, .no, .no, .no, .no, .no, .no, .no], memOf [(19, ⟨3, 1, filR (inR (colsOf 0 (l.map (·.1)))) [.i .i64 0] k⟩)], us [19]⟩) (fun k : Nat => k ≤ l.length) (fun k : Nat => l.length - k) (0) ?_ ?_ (fun k hI => ?_)
  · simp
  · exact Can.weak (Weak.lit (by simp only [go_sem, seval, wdR_len, wdR_pure, inR_pure, hp, hd1, filR_len, hll, subM, leV, inns, innr, V.inn, us, true_or, or_true] <;> (simp [widW_nil])) (by simp only [go_sem, seval, wdR_len, wdR_pure, inR_pure, hp, hd1, filR_len, hll, subM, leV, inns, innr, V.inn, us, true_or, or_true]) (by simp only [go_sem, seval, wdR_len, wdR_pure, inR_pure, hp, hd1, filR_len, hll, subM, leV, inns, innr, V.inn, us, true_or, or_true] <;> (simp [filR_zero, hll])))
  refine AWp.seq ?_
  refine AWp.rgn [] (by simp only [go_sem, seval, wdR_len, wdR_pure, inR_pure, hp, hd1, filR_len, hll]; rfl) ?_ ?_
  · (first | trivial)
  refine AWp.seq ?_
  refine AWp.condB (by simp only [go_sem, seval, wdR_len, wdR_pure, inR_pure, hp, hd1, filR_len, hll]; rfl) (by simp only [go_sem, seval, wdR_len, wdR_pure, inR_pure, hp, hd1, filR_len, hll]) (fun h13 => ?_) (fun h13 => ?_)
  · refine AWp.skip ?_
    refine AWp.seq ?_
    refine AWp.block ?_
    refine AWp.seq ?_
    refine AWp.rgn [] (by simp only [go_sem, seval, wdR_len, wdR_pure, inR_pure, hp, hd1, filR_len, hll, wdR_get (show k < l.length by simpa using h13)]; rfl) ?_ ?_
    · simp only [decide_eq_true_eq] at h13; simp; omega
    refine AWp.seq ?_
    refine AWp.rgn [] (by simp only [go_sem, seval, wdR_len, wdR_pure, inR_pure, hp, hd1, filR_len, hll]; rfl) ?_ ?_
    · simp only [decide_eq_true_eq] at h13; simp; omega
    refine AWp.rgn [] (by simp only [go_sem, seval, wdR_len, wdR_pure, inR_pure, hp, hd1, filR_len, hll]; rfl) ?_ ?_
    · (first | trivial)
    refine AWp.rgn [] (by simp only [go_sem, seval, wdR_len, wdR_pure, inR_pure, hp, hd1, filR_len, hll]; rfl) ?_ ?_
    · (first | trivial)
    refine Exists.intro (k + 1) ⟨?_, ?_, ?_⟩
    · simp at h13; omega
    · simp at h13; omega
    exact Can.weak (Weak.lit (by simp only [go_sem, seval, wdR_len, wdR_pure, inR_pure, hp, hd1, filR_len, hll, subM, leV, inns, innr, V.inn, us, true_or, or_true] <;> ((have q := widW_take (show k < l.length by simpa using h13)); (have q2 := widW_sub l (k + 1)); (have q3 := widW_pos (l.take k)); (refine ⟨?_, ?_⟩; (rw [wrap64 (show -9223372036854775808 ≤ (((l.getD k ([], 0)).1.length : Int) + 1) by omega) (by omega), wrap64 (by omega) (by omega), q]); (rw [wrap64 (by simp at h13; omega) (by simp at h13; omega)]; simp)))) (by simp only [go_sem, seval, wdR_len, wdR_pure, inR_pure, hp, hd1, filR_len, hll, subM, leV, inns, innr, V.inn, us, true_or, or_true]) (by simp only [go_sem, seval, wdR_len, wdR_pure, inR_pure, hp, hd1, filR_len, hll, subM, leV, inns, innr, V.inn, us, true_or, or_true] <;> ((rw [← filR_set (by rw [hll]; simpa using h13), inR_get (by rw [colsOf_len, List.length_map]; simpa using h13), cols_get (by simpa using h13)]))))
  · refine AWp.exit ?_
    refine AWp.seq ?_
    refine AWp.rgn [] (by simp only [go_sem, seval, wdR_len, wdR_pure, inR_pure, hp, hd1, filR_len, hll]; rfl) ?_ ?_
    · (first | trivial)
    refine AWp.frz 19 (by simp only [go_sem, seval, wdR_len, wdR_pure, inR_pure, hp, hd1, filR_len, hll]; rfl) (by simp only [go_sem, seval, wdR_len, wdR_pure, inR_pure, hp, hd1, filR_len, hll]) (by simp only [go_sem, seval, wdR_len, wdR_pure, inR_pure, hp, hd1, filR_len, hll]; rfl) (by simp only [go_sem, seval, wdR_len, wdR_pure, inR_pure, hp, hd1, filR_len, hll]; rfl) ?_
    refine AWp.ret (And.intro (.inr rfl) ?_)
    exact Out.plain (by simp only [Tryz.results136]; rfl) (by simp only [resCs, resC, go_sem, seval, wdR_len, wdR_pure, inR_pure, hp, hd1, filR_len, hll] <;> (split <;> rfl)) (by simp only [resV, go_sem, seval, wdR_len, wdR_pure, inR_pure, hp, hd1, filR_len, hll] <;> (simp at h13; rw [filR_end (by omega)]; simp [← hll, List.take_of_length_le, peel])) (by simp only [go_sem, seval, wdR_len, wdR_pure, inR_pure, hp, hd1, filR_len, hll])
theorem shf_take {l : Wd} {k : Nat} (h : k < l.length) (n : Int) : shf n (l.take (k + 1)) = shf n (l.take k) ++ [((l.getD k ([], 0)).1, if 0 ≤ (l.getD k ([], 0)).2 then (l.getD k ([], 0)).2 + n else (l.getD k ([], 0)).2)] := by
  have e : l.take (k + 1) = l.take k ++ [l.getD k ([], 0)] := by
    rw [List.take_add_one, List.getElem?_eq_getElem h, List.getD_eq_getElem?_getD, List.getElem?_eq_getElem h]; rfl
  rw [e, shf_app]; congr 1
  simp only [shf, List.map_cons, List.map_nil]
  split <;> rfl
theorem l8Shift_a (l : Wd) (n : Int) (hl : l.length ≤ 1000000) (hb : ∀ p ∈ l, p.2 ≤ 1000000) (h0 : 0 ≤ n) (h1 : n ≤ 1000000) : ACall En 183 [.sl false (wdR l), .i .i64 n] [] [.sl false (wdR (shf n l))] [] := by
  refine acall_of_body (fn := Tryz.f183) [] Tryz.func183 rfl rfl (by simp) fun C => ?_
  rw [entry_eq]
  simp only [Tryz.ntmps183, List.length_cons, List.length_nil, Nat.reduceAdd, Nat.reduceSub, List.replicate_succ, List.replicate_zero, List.cons_append, List.nil_append, numL]
  refine AWp.seq ?_
  refine AWp.rgn [] (by simp only [go_sem, seval, wdR_len, wdR_pure, shf_len]; rfl) ?_ ?_
  · (first | trivial | (simp; done) | (simp at h12; simp; omega))
  refine AWp.seq ?_
  refine AWp.rgn [] (by simp only [go_sem, seval, wdR_len, wdR_pure, shf_len]; rfl) ?_ ?_
  · (first | trivial | (simp; done) | (simp at h12; simp; omega))
  refine AWp.seq ?_
  refine AWp.seq ?_
  refine AWp.rgn [] (by simp only [go_sem, seval, wdR_len, wdR_pure, shf_len]; rfl) ?_ ?_
  · (first | trivial | (simp; done) | (simp at h12; simp; omega))
  refine AWp.block ?_
  refine AWp.loopK (fun k : Nat => ⟨[.sl false (wdR l), .i .i64 n, .no, .no, .no, .ow 60 2 0 k, .i .i64 k, .no, .no, .no, .no, .no, .no, .no, .no, .no, .no, .no, .no, .no, .no, .no, .no, .no, .no, .no, .no, .no, .no, .no, .no, .no], memOf [(60, ⟨144, 2, wdR (shf n (l.take k))⟩)], us [60]⟩) (fun k : Nat => k ≤ l.length) (fun k : Nat => l.length - k) (0) ?_ ?_ (fun k hI => ?_)
  · simp
  · refine Can.trans (Can.ownSlot 5 60 144 2 (by simp only [go_sem, seval, wdR_len, wdR_pure, shf_len] <;> rfl) (by simp only [go_sem, seval, wdR_len, wdR_pure, shf_len]) (by simp only [go_sem, seval, wdR_len, wdR_pure, shf_len] <;> rfl)) ?_
    exact Can.weak (Weak.lit (by simp only [go_sem, seval, wdR_len, wdR_pure, shf_len, subM, leV, inns, innr, V.inn, us, true_or, or_true] <;> (simp)) (by simp only [go_sem, seval, wdR_len, wdR_pure, shf_len, subM, leV, inns, innr, V.inn, us, true_or, or_true]) (by simp only [go_sem, seval, wdR_len, wdR_pure, shf_len, subM, leV, inns, innr, V.inn, us, true_or, or_true] <;> (simp [shf, wdR])))
  refine AWp.seq ?_
  refine AWp.seq ?_
  refine AWp.rgn [] (by simp only [go_sem, seval, wdR_len, wdR_pure, shf_len]; rfl) ?_ ?_
  · (first | trivial | (simp; done) | (simp at h12; simp; omega))
  refine AWp.condB (by simp only [go_sem, seval, wdR_len, wdR_pure, shf_len]; rfl) (by simp only [go_sem, seval, wdR_len, wdR_pure, shf_len]) (fun h12 => ?_) (fun h12 => ?_)
  · refine AWp.skip ?_
    refine AWp.seq ?_
    refine AWp.block ?_
    refine AWp.seq ?_
    refine AWp.rgn [] (by simp only [go_sem, seval, wdR_len, wdR_pure, shf_len, wdR_get (show k < l.length by simpa using h12)]; rfl) ?_ ?_
    · (first | trivial | (simp; done) | (simp at h12; simp; omega))
    refine AWp.seqJ (fun v : Int => ⟨[.sl false (wdR l), .i .i64 n, .no, .no, .no, .ow 60 2 0 k, .i .i64 k, .pt 17 2 0 0, .no, .no, .no, .no, .no, .no, .no, .no, .no, .no, .no, .no, .no, .no, .no, .no, .no, .no, .no, .no, .no, .no, .no, .no], memOf [(60, ⟨144, 2, wdR (shf n (l.take k))⟩), (17, ⟨144, 2, [[.s (l.getD k ([], 0)).1, .i .i64 v]]⟩)], us [17, 60]⟩) (fun v : Int => v = if 0 ≤ (l.getD k ([], 0)).2 then (l.getD k ([], 0)).2 + n else (l.getD k ([], 0)).2) ?_ (fun v hJ => ?_)
    · refine AWp.seq ?_
      refine AWp.rgn [] (by simp only [go_sem, seval, wdR_len, wdR_pure, shf_len]; rfl) ?_ ?_
      · (first | trivial | (simp; done) | (simp at h12; simp; omega))
      refine AWp.condB (by simp only [go_sem, seval, wdR_len, wdR_pure, shf_len]; rfl) (by simp only [go_sem, seval, wdR_len, wdR_pure, shf_len]) (fun h21 => ?_) (fun h21 => ?_)
      · refine AWp.rgn [] (by simp only [go_sem, seval, wdR_len, wdR_pure, shf_len]; rfl) ?_ ?_
        · (first | trivial | (simp; done) | (simp at h12; simp; omega))
        refine Exists.intro ((l.getD k ([], 0)).2 + n) ⟨?_, ?_⟩
        · (simp only [decide_eq_true_eq, decide_eq_false_iff_not] at h21; first | rw [if_pos (by omega)] | rw [if_neg (by omega)])
        exact Can.weak (Weak.lit (by simp only [go_sem, seval, wdR_len, wdR_pure, shf_len, subM, leV, inns, innr, V.inn, us, true_or, or_true]) (by simp only [go_sem, seval, wdR_len, wdR_pure, shf_len, subM, leV, inns, innr, V.inn, us, true_or, or_true]) (by simp only [go_sem, seval, wdR_len, wdR_pure, shf_len, subM, leV, inns, innr, V.inn, us, true_or, or_true] <;> ((simp only [decide_eq_true_eq, decide_eq_false_iff_not] at h21; have := hb _ (getD_mem (d := ([], 0)) (show k < l.length by simpa using h12)); first | rfl | (rw [wrap64 (by omega) (by omega)]; done) | (simp; done) | trace_state))))
      · refine AWp.skip ?_
        refine Exists.intro ((l.getD k ([], 0)).2) ⟨?_, ?_⟩
        · (simp only [decide_eq_true_eq, decide_eq_false_iff_not] at h21; first | rw [if_pos (by omega)] | rw [if_neg (by omega)])
        exact Can.weak (Weak.lit (by simp only [go_sem, seval, wdR_len, wdR_pure, shf_len, subM, leV, inns, innr, V.inn, us, true_or, or_true]) (by simp only [go_sem, seval, wdR_len, wdR_pure, shf_len, subM, leV, inns, innr, V.inn, us, true_or, or_true]) (by simp only [go_sem, seval, wdR_len, wdR_pure, shf_len, subM, leV, inns, innr, V.inn, us, true_or, or_true] <;> ((simp only [decide_eq_true_eq, decide_eq_false_iff_not] at h21; have := hb _ (getD_mem (d := ([], 0)) (show k < l.length by simpa using h12)); first | rfl | (rw [wrap64 (by omega) (by omega)]; done) | (simp; done) | trace_state))))
    refine AWp.rgn [] (by simp only [go_sem, seval, wdR_len, wdR_pure, shf_len]; rfl) ?_ ?_
    · simp at h12; simp [wdR_rows, fsOk]; omega
    refine AWp.rgn [] (by simp only [go_sem, seval, wdR_len, wdR_pure, shf_len]; rfl) ?_ ?_
    · (first | trivial | (simp; done) | (simp at h12; simp; omega))
    refine Exists.intro (k + 1) ⟨?_, ?_, ?_⟩
    · simp at h12; omega
    · simp at h12; omega
    refine Can.trans (Can.swap 40 60 (by decide) (by decide) (by decide) (by decide) (by simp only [go_sem, seval, wdR_len, wdR_pure, shf_len, V.cl]) (by simp only [go_sem, seval, wdR_len, wdR_pure, shf_len, V.cl]) (by simp only [go_sem, seval, wdR_len, wdR_pure, shf_len, swL_get, sw, swM, rnB] <;> rfl) (by simp only [go_sem, seval, wdR_len, wdR_pure, shf_len, swL_get, sw, swM, rnB] <;> rfl) (by simp only [go_sem, seval, wdR_len, wdR_pure, shf_len, swL_get, sw, swM, rnB] <;> rfl)) ?_
    exact Can.weak (Weak.lit (by simp only [go_sem, seval, wdR_len, wdR_pure, shf_len, subM, leV, inns, innr, V.inn, us, true_or, or_true] <;> (rw [wrap64 (by simp at h12; omega) (by simp at h12; omega)]; simp)) (by simp only [go_sem, seval, wdR_len, wdR_pure, shf_len, subM, leV, inns, innr, V.inn, us, true_or, or_true]) (by simp only [go_sem, seval, wdR_len, wdR_pure, shf_len, subM, leV, inns, innr, V.inn, us, true_or, or_true] <;> (rw [shf_take (by simpa using h12), wdR_app, ← hJ]; rfl)))
  · refine AWp.exit ?_
    refine AWp.seq ?_
    refine AWp.rgn [] (by simp only [go_sem, seval, wdR_len, wdR_pure, shf_len]; rfl) ?_ ?_
    · (first | trivial | (simp; done) | (simp at h12; simp; omega))
    refine AWp.frz 60 (by simp only [go_sem, seval, wdR_len, wdR_pure, shf_len]; rfl) (by simp only [go_sem, seval, wdR_len, wdR_pure, shf_len]) (by simp only [go_sem, seval, wdR_len, wdR_pure, shf_len]; rfl) (by simp only [go_sem, seval, wdR_len, wdR_pure, shf_len]; rfl) ?_
    refine AWp.ret (And.intro (.inr rfl) ?_)
    exact Out.plain (by simp only [Tryz.results183]; rfl) (by simp only [resCs, resC, go_sem, seval, wdR_len, wdR_pure, shf_len] <;> (split <;> rfl)) (by simp only [resV, go_sem, seval, wdR_len, wdR_pure, shf_len] <;> (simp at h12; (obtain rfl : k = l.length := (by omega)); rw [List.take_of_length_le (Nat.le_refl _)]; simp [List.take_of_length_le, shf_len, wdR_len, peel])) (by simp only [go_sem, seval, wdR_len, wdR_pure, shf_len])
theorem l8Cols_a (l : List Str) (hl : l.length ≤ 1000000) (hw : wid l < 1099511627776) : ACall En 142 [.sl false (strR l)] [] [.sl false (inR (colsOf 0 l))] [] := by
  refine acall_of_body (fn := Tryz.f142) [] Tryz.func142 rfl rfl (by simp) fun C => ?_
  rw [entry_eq]
  simp only [Tryz.ntmps142, List.length_cons, List.length_nil, Nat.reduceAdd, Nat.reduceSub, List.replicate_succ, List.replicate_zero, List.cons_append, List.nil_append, numL]
  refine AWp.seq ?_
  refine AWp.rgn [] (by simp only [go_sem, seval, strR_len, strR_pure, inR_pure]; rfl) ?_ ?_
  · (first | trivial | (simp; done) | (simp at h10; simp; omega))
  refine AWp.seq ?_
  refine AWp.rgn [] (by simp only [go_sem, seval, strR_len, strR_pure, inR_pure]; rfl) ?_ ?_
  · (first | trivial | (simp; done) | (simp at h10; simp; omega))
  refine AWp.seq ?_
  refine AWp.rgn [] (by simp only [go_sem, seval, strR_len, strR_pure, inR_pure]; rfl) ?_ ?_
  · (first | trivial | (simp; done) | (simp at h10; simp; omega))
  refine AWp.seq ?_
  refine AWp.seq ?_
  refine AWp.rgn [] (by simp only [go_sem, seval, strR_len, strR_pure, inR_pure]; rfl) ?_ ?_
  · (first | trivial | (simp; done) | (simp at h10; simp; omega))
  refine AWp.block ?_
  refine AWp.loopK (fun k : Nat => ⟨[.sl false (strR l), .no, .no, .ow 60 1 0 k, .i .i64 (wid (l.take k)), .i .i64 k, .no, .no, .no, .no, .no, .no, .no, .no, .no, .no, .no, .no, .no, .no, .no, .no, .no, .no, .no, .no], memOf [(60, ⟨3, 1, inR ((colsOf 0 l).take k)⟩)], us [60]⟩) (fun k : Nat => k ≤ l.length) (fun k : Nat => l.length - k) (0) ?_ ?_ (fun k hI => ?_)
  · simp
  · refine Can.trans (Can.ownSlot 3 60 3 1 (by simp only [go_sem, seval, strR_len, strR_pure, inR_pure] <;> rfl) (by simp only [go_sem, seval, strR_len, strR_pure, inR_pure]) (by simp only [go_sem, seval, strR_len, strR_pure, inR_pure] <;> rfl)) ?_
    exact Can.weak (Weak.lit (by simp only [go_sem, seval, strR_len, strR_pure, inR_pure, subM, leV, inns, innr, V.inn, us, true_or, or_true] <;> (simp [wid_nil])) (by simp only [go_sem, seval, strR_len, strR_pure, inR_pure, subM, leV, inns, innr, V.inn, us, true_or, or_true]) (by simp only [go_sem, seval, strR_len, strR_pure, inR_pure, subM, leV, inns, innr, V.inn, us, true_or, or_true] <;> (simp [inR])))
  refine AWp.seq ?_
  refine AWp.seq ?_
  refine AWp.rgn [] (by simp only [go_sem, seval, strR_len, strR_pure, inR_pure]; rfl) ?_ ?_
  · (first | trivial | (simp; done) | (simp at h10; simp; omega))
  refine AWp.condB (by simp only [go_sem, seval, strR_len, strR_pure, inR_pure]; rfl) (by simp only [go_sem, seval, strR_len, strR_pure, inR_pure]) (fun h10 => ?_) (fun h10 => ?_)
  · refine AWp.skip ?_
    refine AWp.seq ?_
    refine AWp.block ?_
    refine AWp.seq ?_
    refine AWp.rgn [] (by simp only [go_sem, seval, strR_len, strR_pure, inR_pure]; rfl) ?_ ?_
    · simp at h10; simp [inR_rows, fsOk, inR_len, colsOf_len]; omega
    refine AWp.rgn [] (by simp only [go_sem, seval, strR_len, strR_pure, inR_pure, strR_get (show k < l.length by simpa using h10)]; rfl) ?_ ?_
    · (first | trivial | (simp; done) | (simp at h10; simp; omega))
    refine AWp.rgn [] (by simp only [go_sem, seval, strR_len, strR_pure, inR_pure]; rfl) ?_ ?_
    · (first | trivial | (simp; done) | (simp at h10; simp; omega))
    refine Exists.intro (k + 1) ⟨?_, ?_, ?_⟩
    · simp at h10; omega
    · simp at h10; omega
    refine Can.trans (Can.swap 26 60 (by decide) (by decide) (by decide) (by decide) (by simp only [go_sem, seval, strR_len, strR_pure, inR_pure, V.cl]) (by simp only [go_sem, seval, strR_len, strR_pure, inR_pure, V.cl]) (by simp only [go_sem, seval, strR_len, strR_pure, inR_pure, swL_get, sw, swM, rnB] <;> rfl) (by simp only [go_sem, seval, strR_len, strR_pure, inR_pure, swL_get, sw, swM, rnB] <;> rfl) (by simp only [go_sem, seval, strR_len, strR_pure, inR_pure, swL_get, sw, swM, rnB] <;> rfl)) ?_
    exact Can.weak (Weak.lit (by simp only [go_sem, seval, strR_len, strR_pure, inR_pure, subM, leV, inns, innr, V.inn, us, true_or, or_true] <;> ((have q := wid_take (show k < l.length by simpa using h10)); (have q2 := wid_sub l (k + 1)); (repeat' apply And.intro) <;> first | (simp; done) | (rw [wrap64 (by simp at h10; omega) (by simp at h10; omega)]; simp; done) | (rw [wrap64 (show -9223372036854775808 ≤ ((wid (l.take k) : Int) + ((l.getD k []).length : Int)) by omega) (by omega), wrap64 (by omega) (by omega)]; omega) | trace_state)) (by simp only [go_sem, seval, strR_len, strR_pure, inR_pure, subM, leV, inns, innr, V.inn, us, true_or, or_true]) (by simp only [go_sem, seval, strR_len, strR_pure, inR_pure, subM, leV, inns, innr, V.inn, us, true_or, or_true] <;> ((rw [List.take_add_one, List.getElem?_eq_getElem (show k < (colsOf 0 l).length by rw [colsOf_len]; simpa using h10), inR_app]; (have := colsOf_at l 0 (show k < l.length by simpa using h10)); rw [List.getD_eq_getElem?_getD, List.getElem?_eq_getElem (show k < (colsOf 0 l).length by rw [colsOf_len]; simpa using h10), Option.getD_some] at this; rw [this]; simp [inR]))))
  · refine AWp.exit ?_
    refine AWp.seq ?_
    refine AWp.rgn [] (by simp only [go_sem, seval, strR_len, strR_pure, inR_pure]; rfl) ?_ ?_
    · (first | trivial | (simp; done) | (simp at h10; simp; omega))
    refine AWp.frz 60 (by simp only [go_sem, seval, strR_len, strR_pure, inR_pure]; rfl) (by simp only [go_sem, seval, strR_len, strR_pure, inR_pure]) (by simp only [go_sem, seval, strR_len, strR_pure, inR_pure]; rfl) (by simp only [go_sem, seval, strR_len, strR_pure, inR_pure]; rfl) ?_
    refine AWp.ret (And.intro (.inr rfl) ?_)
    exact Out.plain (by simp only [Tryz.results142]; rfl) (by simp only [resCs, resC, go_sem, seval, strR_len, strR_pure, inR_pure] <;> (split <;> rfl)) (by simp only [resV, go_sem, seval, strR_len, strR_pure, inR_pure] <;> (simp at h10; (obtain rfl : k = l.length := (by omega)); rw [List.take_of_length_le (by rw [colsOf_len]; exact Nat.le_refl _)]; simp [List.take_of_length_le, inR_len, colsOf_len, peel])) (by simp only [go_sem, seval, strR_len, strR_pure, inR_pure])
end

section
set_option maxRecDepth 100000
set_option maxHeartbeats 4000000

theorem l1Max_a (x y : Int) : ACall En 214 [.i .i64 x, .i .i64 y] [] [.i .i64 (max x y)] [] := by
  refine acall_of_body (fn := Tryz.f214) [] Tryz.func214 rfl rfl (by simp) fun C => ?_
  rw [entry_eq]
  simp only [Tryz.ntmps214, List.length_cons, List.length_nil, Nat.reduceAdd, Nat.reduceSub, List.replicate_succ, List.replicate_zero, List.cons_append, List.nil_append, numL]
  refine AWp.seq ?_
  refine AWp.rgn [] (by simp only [go_sem, seval]; rfl) ?_ ?_
  · (first | trivial | (simp; done))
  refine AWp.seq ?_
  refine AWp.seq ?_
  refine AWp.rgn [] (by simp only [go_sem, seval]; rfl) ?_ ?_
  · (first | trivial | (simp; done))
  refine AWp.condB (by simp only [go_sem, seval]; rfl) (by simp only [go_sem, seval]) (fun h7 => ?_) (fun h7 => ?_)
  · refine AWp.seq ?_
    refine AWp.rgn [] (by simp only [go_sem, seval]; rfl) ?_ ?_
    · (first | trivial | (simp; done))
    refine AWp.ret (And.intro (.inr rfl) ?_)
    exact Out.plain (by simp only [Tryz.results214]; rfl) (by simp only [resCs, resC, go_sem, seval] <;> (split <;> rfl)) (by simp only [resV, go_sem, seval] <;> (simp only [decide_eq_true_eq] at h7; rw [show max x y = x by omega])) (by simp only [go_sem, seval])
  · refine AWp.skip ?_
    refine AWp.seq ?_
    refine AWp.rgn [] (by simp only [go_sem, seval]; rfl) ?_ ?_
    · (first | trivial | (simp; done))
    refine AWp.ret (And.intro (.inr rfl) ?_)
    exact Out.plain (by simp only [Tryz.results214]; rfl) (by simp only [resCs, resC, go_sem, seval] <;> (split <;> rfl)) (by simp only [resV, go_sem, seval] <;> (simp only [decide_eq_false_iff_not] at h7; rw [show max x y = y by omega])) (by simp only [go_sem, seval])
theorem l8Expr_a (d : Nat) : ∀ (e : E) (t b : Int), form e d = true → sm e = true → many e d ≤ 1000 → t ≤ 4 → b ≤ 4 → -1000 ≤ t → -1000 ≤ b → ACall En 184 [.ag (eC e), .i .i64 t, .i .i64 b] [] [.sl false (wdR (l8 e t b))] [] := by
  induction d with
  | zero => intro e t b h; have := (form_open h).1; omega
  | succ d ih =>
  intro e t b h hs hm ht hb ht2 hb2
  obtain ⟨a1, a2, a3⟩ := sm_open hs
  have e1 : ((d + 1 : Nat) : Int) - 1 = (d : Int) := by omega
  have hd1 : (1 : Int) ≤ ((d + 1 : Nat) : Int) := by omega
  have g1 : e.kind = 1 → 0 ≤ e.n ∧ e.n ≤ 1000000 := fun hk => by
    rcases (form_open h).2 with ⟨k1, h1, h2, h3, h4⟩ | ⟨k1, h1, h2, h3⟩ | ⟨k1, _⟩ | ⟨k1, _⟩ <;> omega
  have g3 : e.kind = 3 → e.kids.length = 2 ∧ 1 ≤ tight e.s ∧ tight e.s ≤ 3 ∧ form (e.kids.getD 0 E0) d = true ∧ form (e.kids.getD 1 E0) d = true ∧ many (e.kids.getD 0 E0) d ≤ 1000 ∧ many (e.kids.getD 1 E0) d ≤ 1000 ∧ lvl e = tight e.s := fun hk => by
    rcases (form_open h).2 with ⟨k1, _⟩ | ⟨k1, _⟩ | ⟨k1, h1, h2, h3, h4, h5⟩ | ⟨k1, _⟩ <;> try omega
    rw [e1] at h4 h5
    have := isOp_tight h2
    have hm2 := many_two hd1 h3
    rw [e1] at hm2
    have q1 := wds_le d _ 0 h4
    have q2 := wds_le d _ 0 h5
    exact ⟨h3, this.1, this.2, h4, h5, by omega, by omega, lvl_op k1 h2⟩
  have g4 : e.kind = 4 → e.kids.length = 1 ∧ form (e.kids.getD 0 E0) d = true ∧ many (e.kids.getD 0 E0) d ≤ 1000 := fun hk => by
    rcases (form_open h).2 with ⟨k1, _⟩ | ⟨k1, _⟩ | ⟨k1, _⟩ | ⟨k1, h1, h2, h3, h4⟩ <;> try omega
    rw [e1] at h4
    have hm2 := many_one hd1 h3
    rw [e1] at hm2
    have q1 := wds_le d _ 0 h4
    exact ⟨h3, h4, by omega⟩
  have g0 : e.kind = 1 ∨ e.kind = 2 ∨ e.kind = 3 ∨ e.kind = 4 := by
    rcases (form_open h).2 with ⟨k1, _⟩ | ⟨k1, _⟩ | ⟨k1, _⟩ | ⟨k1, _⟩ <;> omega
  have hlv : lvl e = if e.kind = 3 then tight e.s else 4 := by
    by_cases hk : e.kind = 3
    · rw [if_pos hk, (g3 hk).2.2.2.2.2.2.2]
    · rw [if_neg hk, lvl, if_neg hk]
  have hC : e.kind ≠ 4 → (l8c e).length ≤ 7000 ∧ ∀ p ∈ l8c e, p.2 ≤ 7000 := fun hk => by
    rcases g0 with hk4 | hk4 | hk4 | hk4
    · simp [l8c, hk4]
    · simp [l8c, hk4]
    · have q := g3 hk4
      have q1 := l8_le q.2.2.2.1 q.2.2.2.2.2.1 (t := max 2 (tight e.s)) (b := max 2 (tight e.s)) (by omega) (by omega)
      have q2 := l8_le q.2.2.2.2.1 q.2.2.2.2.2.2.1 (t := tight e.s + 1) (b := tight e.s + 1) (by omega) (by omega)
      have q3 := form_many d _ q.2.2.2.1 q.2.2.2.2.2.1 (max 2 (tight e.s))
      simp only [l8c, hk4, show ¬ (3 : Int) = 1 by omega, show ¬ (3 : Int) = 2 by omega, if_false]
      refine ⟨by simp only [List.length_append, List.length_cons, shf_len]; omega, fun p hp => ?_⟩
      rcases List.mem_append.1 hp with hp | hp
      · have := q1.2 p hp; omega
      · rcases List.mem_cons.1 hp with rfl | hp
        · dsimp only; omega
        · simp only [shf, List.mem_map] at hp
          obtain ⟨u, hu, rfl⟩ := hp
          have := q2.2 u hu
          split
          · dsimp only; omega
          · omega
    · exact absurd hk4 hk
  have hN : e.kind ≠ 4 → l8c e ≠ [] := fun hk => by
    rcases g0 with k | k | k | k
    · simp [l8c, k]
    · simp [l8c, k]
    · simp [l8c, k]
    · exact absurd k hk
  have hT : e.kind ≠ 4 → l8 e t b = brk (decide (lvl e < b)) (shf (if lvl e < t then 1 else 0) (l8c e)) := fun hk => by
    rw [l8_core (by rcases g0 with k | k | k | k; exact .inl k; exact .inr (.inl k); exact .inr (.inr ⟨k, (g3 k).1⟩); exact absurd k hk)]
    rw [hlv]
    by_cases k3 : e.kind = 3
    · simp [k3]
    · simp [k3, show ¬ (4 : Int) < b by omega, show ¬ (4 : Int) < t by omega]
  refine acall_of_body (fn := Tryz.f184) [] Tryz.func184 rfl rfl (by simp) fun C => ?_
  rw [entry_eq]
  simp only [Tryz.ntmps184, List.length_cons, List.length_nil, Nat.reduceAdd, Nat.reduceSub, List.replicate_succ, List.replicate_zero, List.cons_append, List.nil_append, numL]
  refine AWp.seq ?_
  refine AWp.rgn [] (by simp only [go_sem, seval, wdR_len, wdR_pure, strR_len, strR_pure, List.length_append, List.take_of_length_le, shf_len]; rfl) ?_ ?_
  · (first | trivial | (simp; done) | (simp [fsOk, wdR_rows]; done))
  refine AWp.seq ?_
  refine AWp.rgn [] (by simp only [go_sem, seval, wdR_len, wdR_pure, strR_len, strR_pure, List.length_append, List.take_of_length_le, shf_len]; rfl) ?_ ?_
  · (first | trivial | (simp; done) | (simp [fsOk, wdR_rows]; done))
  refine AWp.seq ?_
  refine AWp.rgn [call0 (l4Level_a e)] (by simp only [go_sem, seval, wdR_len, wdR_pure, strR_len, strR_pure, List.length_append, List.take_of_length_le, shf_len]; rfl) ?_ ?_
  · (first | trivial | (simp; done) | (simp [fsOk, wdR_rows]; done))
  refine AWp.seqJ (fun op : Int => ⟨[.no, .i .i64 t, .i .i64 b, .pt 13 4 0 0, .no, .no, .no, .i .i64 op, .i .i64 (lvl e), .no, .no, .no, .no, .no, .no, .no, .no, .no, .no, .no, .no, .no, .no, .no, .no, .no, .no, .no, .no, .no, .no, .no, .no, .no, .no, .no, .no, .no, .no, .no, .no, .no, .no, .no, .no, .no, .no, .no, .no, .no, .no, .no, .no, .no, .no, .no, .no, .no, .no, .no, .no, .no, .no, .no, .no, .no, .no, .no, .no, .no, .no, .no, .no, .no, .no, .no, .no, .no, .no, .no, .no, .no, .no, .no, .no, .no, .no, .no, .no, .no, .no, .no, .no, .no, .no, .no, .no, .no, .no, .no, .no, .no], memOf [(13, ⟨30, 4, [eC e]⟩)], us [13]⟩) (fun op : Int => op = if lvl e < t then 1 else 0) ?_ (fun op hJ => ?_)
  · refine AWp.seq ?_
    refine AWp.rgn [] (by simp only [go_sem, seval, wdR_len, wdR_pure, strR_len, strR_pure, List.length_append, List.take_of_length_le, shf_len]; rfl) ?_ ?_
    · (first | trivial | (simp; done) | (simp [fsOk, wdR_rows]; done))
    refine AWp.condB (by simp only [go_sem, seval, wdR_len, wdR_pure, strR_len, strR_pure, List.length_append, List.take_of_length_le, shf_len]; rfl) (by simp only [go_sem, seval, wdR_len, wdR_pure, strR_len, strR_pure, List.length_append, List.take_of_length_le, shf_len]) (fun h18 => ?_) (fun h18 => ?_)
    · refine AWp.rgn [] (by simp only [go_sem, seval, wdR_len, wdR_pure, strR_len, strR_pure, List.length_append, List.take_of_length_le, shf_len]; rfl) ?_ ?_
      · (first | trivial | (simp; done) | (simp [fsOk, wdR_rows]; done))
      refine Exists.intro (1) ⟨?_, ?_⟩
      · simp_all
      exact Can.weak (Weak.lit (by simp only [go_sem, seval, wdR_len, wdR_pure, strR_len, strR_pure, List.length_append, List.take_of_length_le, shf_len, subM, leV, inns, innr, V.inn, us, true_or, or_true]) (by simp only [go_sem, seval, wdR_len, wdR_pure, strR_len, strR_pure, List.length_append, List.take_of_length_le, shf_len, subM, leV, inns, innr, V.inn, us, true_or, or_true]) (by simp only [go_sem, seval, wdR_len, wdR_pure, strR_len, strR_pure, List.length_append, List.take_of_length_le, shf_len, subM, leV, inns, innr, V.inn, us, true_or, or_true]))
    · refine AWp.skip ?_
      refine Exists.intro (0) ⟨?_, ?_⟩
      · simp_all
      exact Can.weak (Weak.lit (by simp only [go_sem, seval, wdR_len, wdR_pure, strR_len, strR_pure, List.length_append, List.take_of_length_le, shf_len, subM, leV, inns, innr, V.inn, us, true_or, or_true]) (by simp only [go_sem, seval, wdR_len, wdR_pure, strR_len, strR_pure, List.length_append, List.take_of_length_le, shf_len, subM, leV, inns, innr, V.inn, us, true_or, or_true]) (by simp only [go_sem, seval, wdR_len, wdR_pure, strR_len, strR_pure, List.length_append, List.take_of_length_le, shf_len, subM, leV, inns, innr, V.inn, us, true_or, or_true]))
  refine AWp.seq ?_
  refine AWp.rgn [] (by simp only [go_sem, seval, wdR_len, wdR_pure, strR_len, strR_pure, List.length_append, List.take_of_length_le, shf_len]; rfl) ?_ ?_
  · (first | trivial | (simp; done) | (simp [fsOk, wdR_rows]; done))
  refine AWp.seqJ (fun u : Unit => ⟨[.no, .no, .i .i64 b, .no, .no, .no, .no, .i .i64 op, .i .i64 (lvl e), .sl false (wdR (l8c e)), .no, .no, .no, .no, .no, .no, .no, .no, .no, .no, .no, .no, .no, .no, .no, .no, .no, .no, .no, .no, .no, .no, .no, .no, .no, .no, .no, .no, .no, .no, .no, .no, .no, .no, .no, .no, .no, .no, .no, .no, .no, .no, .no, .no, .no, .no, .no, .no, .no, .no, .no, .no, .no, .no, .no, .no, .no, .no, .no, .no, .no, .no, .no, .no, .no, .no, .no, .no, .no, .no, .no, .no, .no, .no, .no, .no, .no, .no, .no, .no, .no, .no, .no, .no, .no, .no, .no, .no, .no, .no, .no, .no], memOf [], us []⟩) (fun u : Unit => e.kind ≠ 4 ∧ op = if lvl e < t then 1 else 0) ?_ (fun u hJ => ?_)
  · refine AWp.seq ?_
    refine AWp.rgn [] (by simp only [go_sem, seval, wdR_len, wdR_pure, strR_len, strR_pure, List.length_append, List.take_of_length_le, shf_len]; rfl) ?_ ?_
    · (first | trivial | (simp; done) | (simp [fsOk, wdR_rows]; done))
    refine AWp.block ?_
    refine AWp.seq ?_
    refine AWp.rgn [] (by simp only [go_sem, seval, wdR_len, wdR_pure, strR_len, strR_pure, List.length_append, List.take_of_length_le, shf_len]; rfl) ?_ ?_
    · (first | trivial | (simp; done) | (simp [fsOk, wdR_rows]; done))
    refine AWp.condB (by simp only [go_sem, seval, wdR_len, wdR_pure, strR_len, strR_pure, List.length_append, List.take_of_length_le, shf_len]; rfl) (by simp only [go_sem, seval, wdR_len, wdR_pure, strR_len, strR_pure, List.length_append, List.take_of_length_le, shf_len]) (fun h30 => ?_) (fun h30 => ?_)
    · refine AWp.rgn [call0 (l12Dec_a e.n (by have := g1 (by simpa using h30); omega) (by have := g1 (by simpa using h30); omega))] (by simp only [go_sem, seval, wdR_len, wdR_pure, strR_len, strR_pure, List.length_append, List.take_of_length_le, shf_len]; rfl) ?_ ?_
      · (first | trivial | (simp; done) | (simp [fsOk, wdR_rows]; done))
      refine Exists.intro (()) ⟨?_, ?_⟩
      · exact ⟨by simp_all, hJ⟩
      refine Can.trans (Can.frz 48 (by simp only [go_sem, seval, wdR_len, wdR_pure, strR_len, strR_pure, List.length_append, List.take_of_length_le, shf_len] <;> rfl) (by simp only [go_sem, seval, wdR_len, wdR_pure, strR_len, strR_pure, List.length_append, List.take_of_length_le, shf_len]) (by simp only [go_sem, seval, wdR_len, wdR_pure, strR_len, strR_pure, List.length_append, List.take_of_length_le, shf_len] <;> rfl) (by simp only [go_sem, seval, wdR_len, wdR_pure, strR_len, strR_pure, List.length_append, List.take_of_length_le, shf_len] <;> rfl)) ?_
      exact Can.weak (Weak.lit (by simp only [go_sem, seval, wdR_len, wdR_pure, strR_len, strR_pure, List.length_append, List.take_of_length_le, shf_len, subM, leV, inns, innr, V.inn, us, true_or, or_true] <;> (first | (have k1 : e.kind = 1 := (by simpa using h30); rw [itoa_dec (g1 k1).1]; simp [l8c, k1, wdR, ler_refl]; done) | (have k1 : e.kind = 2 := (by simpa using h39); simp [l8c, k1, wdR, ler_refl]; done) | (have k1 : e.kind = 3 := (by simpa using h47); have q := (g3 k1).2.2.2.2.2.2.2; rw [q, show max (tight e.s) 2 = max 2 (tight e.s) by omega]; simp [l8c, k1, wdR, ler_refl]; done) | trace_state)) (by simp only [go_sem, seval, wdR_len, wdR_pure, strR_len, strR_pure, List.length_append, List.take_of_length_le, shf_len, subM, leV, inns, innr, V.inn, us, true_or, or_true]) (by simp only [go_sem, seval, wdR_len, wdR_pure, strR_len, strR_pure, List.length_append, List.take_of_length_le, shf_len, subM, leV, inns, innr, V.inn, us, true_or, or_true]))
    · refine AWp.seq ?_
      refine AWp.rgn [] (by simp only [go_sem, seval, wdR_len, wdR_pure, strR_len, strR_pure, List.length_append, List.take_of_length_le, shf_len]; rfl) ?_ ?_
      · (first | trivial | (simp; done) | (simp [fsOk, wdR_rows]; done))
      refine AWp.condB (by simp only [go_sem, seval, wdR_len, wdR_pure, strR_len, strR_pure, List.length_append, List.take_of_length_le, shf_len]; rfl) (by simp only [go_sem, seval, wdR_len, wdR_pure, strR_len, strR_pure, List.length_append, List.take_of_length_le, shf_len]) (fun h39 => ?_) (fun h39 => ?_)
      · refine AWp.rgn [] (by simp only [go_sem, seval, wdR_len, wdR_pure, strR_len, strR_pure, List.length_append, List.take_of_length_le, shf_len]; rfl) ?_ ?_
        · (first | trivial | (simp; done) | (simp [fsOk, wdR_rows]; done))
        refine Exists.intro (()) ⟨?_, ?_⟩
        · exact ⟨by simp_all, hJ⟩
        refine Can.trans (Can.frz 56 (by simp only [go_sem, seval, wdR_len, wdR_pure, strR_len, strR_pure, List.length_append, List.take_of_length_le, shf_len] <;> rfl) (by simp only [go_sem, seval, wdR_len, wdR_pure, strR_len, strR_pure, List.length_append, List.take_of_length_le, shf_len]) (by simp only [go_sem, seval, wdR_len, wdR_pure, strR_len, strR_pure, List.length_append, List.take_of_length_le, shf_len] <;> rfl) (by simp only [go_sem, seval, wdR_len, wdR_pure, strR_len, strR_pure, List.length_append, List.take_of_length_le, shf_len] <;> rfl)) ?_
        exact Can.weak (Weak.lit (by simp only [go_sem, seval, wdR_len, wdR_pure, strR_len, strR_pure, List.length_append, List.take_of_length_le, shf_len, subM, leV, inns, innr, V.inn, us, true_or, or_true] <;> (first | (have k1 : e.kind = 1 := (by simpa using h30); rw [itoa_dec (g1 k1).1]; simp [l8c, k1, wdR, ler_refl]; done) | (have k1 : e.kind = 2 := (by simpa using h39); simp [l8c, k1, wdR, ler_refl]; done) | (have k1 : e.kind = 3 := (by simpa using h47); have q := (g3 k1).2.2.2.2.2.2.2; rw [q, show max (tight e.s) 2 = max 2 (tight e.s) by omega]; simp [l8c, k1, wdR, ler_refl]; done) | trace_state)) (by simp only [go_sem, seval, wdR_len, wdR_pure, strR_len, strR_pure, List.length_append, List.take_of_length_le, shf_len, subM, leV, inns, innr, V.inn, us, true_or, or_true]) (by simp only [go_sem, seval, wdR_len, wdR_pure, strR_len, strR_pure, List.length_append, List.take_of_length_le, shf_len, subM, leV, inns, innr, V.inn, us, true_or, or_true]))
      · refine AWp.seq ?_
        refine AWp.rgn [] (by simp only [go_sem, seval, wdR_len, wdR_pure, strR_len, strR_pure, List.length_append, List.take_of_length_le, shf_len]; rfl) ?_ ?_
        · (first | trivial | (simp; done) | (simp [fsOk, wdR_rows]; done))
        refine AWp.condB (by simp only [go_sem, seval, wdR_len, wdR_pure, strR_len, strR_pure, List.length_append, List.take_of_length_le, shf_len]; rfl) (by simp only [go_sem, seval, wdR_len, wdR_pure, strR_len, strR_pure, List.length_append, List.take_of_length_le, shf_len]) (fun h47 => ?_) (fun h47 => ?_)
        · refine AWp.seq ?_
          refine AWp.rgn [call0 (l1Max_a (lvl e) 2)] (by simp only [go_sem, seval, wdR_len, wdR_pure, strR_len, strR_pure, List.length_append, List.take_of_length_le, shf_len]; rfl) ?_ ?_
          · (first | trivial | (simp; done) | (simp [fsOk, wdR_rows]; done))
          refine AWp.seq ?_
          refine AWp.rgn [call0 (ih (e.kids.getD 0 E0) (max (lvl e) 2) (max (lvl e) 2) (g3 (by simpa using h47)).2.2.2.1 (sms_mem a3 _ (getD_mem (by have := g3 (by simpa using h47); omega))) (g3 (by simpa using h47)).2.2.2.2.2.1 (by have := g3 (by simpa using h47); omega) (by have := g3 (by simpa using h47); omega) (by omega) (by omega))] (by simp only [go_sem, seval, wdR_len, wdR_pure, strR_len, strR_pure, List.length_append, List.take_of_length_le, shf_len, eR_get (show 0 < e.kids.length by have := g3 (by simpa using h47); omega)]; rfl) ?_ ?_
          · have q := g3 (by simpa using h47); simp; omega
          refine AWp.seq ?_
          refine AWp.rgn [call0 (l4Words_a d (e.kids.getD 0 E0) (max (lvl e) 2) (g3 (by simpa using h47)).2.2.2.1 (sms_mem a3 _ (getD_mem (by have := g3 (by simpa using h47); omega))) (g3 (by simpa using h47)).2.2.2.2.2.1 (by have := g3 (by simpa using h47); omega) (by omega))] (by simp only [go_sem, seval, wdR_len, wdR_pure, strR_len, strR_pure, List.length_append, List.take_of_length_le, shf_len, eR_get (show 0 < e.kids.length by have := g3 (by simpa using h47); omega)]; rfl) ?_ ?_
          · have q := g3 (by simpa using h47); simp; omega
          refine AWp.seq ?_
          refine AWp.rgn [call0 (ih (e.kids.getD 1 E0) (lvl e + 1) (lvl e + 1) (g3 (by simpa using h47)).2.2.2.2.1 (sms_mem a3 _ (getD_mem (by have := g3 (by simpa using h47); omega))) (g3 (by simpa using h47)).2.2.2.2.2.2.1 (by have := g3 (by simpa using h47); omega) (by have := g3 (by simpa using h47); omega) (by have := g3 (by simpa using h47); omega) (by have := g3 (by simpa using h47); omega))] (by simp only [go_sem, seval, wdR_len, wdR_pure, strR_len, strR_pure, List.length_append, List.take_of_length_le, shf_len, eR_get (show 1 < e.kids.length by have := g3 (by simpa using h47); omega), wrap64 (show -9223372036854775808 ≤ lvl e + 1 by have := g3 (by simpa using h47); omega) (by have := g3 (by simpa using h47); omega)]; rfl) ?_ ?_
          · have q := g3 (by simpa using h47); simp; omega
          refine AWp.rgnD [call0 (l8Shift_a (l8 (e.kids.getD 1 E0) (lvl e + 1) (lvl e + 1)) ((wds (e.kids.getD 0 E0) (max (lvl e) 2)).length + 1) (by have q := g3 (by simpa using h47); have := (l8_le q.2.2.2.2.1 q.2.2.2.2.2.2.1 (t := lvl e + 1) (b := lvl e + 1) (by omega) (by omega)).1; omega) (fun p hp => by have q := g3 (by simpa using h47); have := (l8_le q.2.2.2.2.1 q.2.2.2.2.2.2.1 (t := lvl e + 1) (b := lvl e + 1) (by omega) (by omega)).2 p hp; omega) (by omega) (by have q := g3 (by simpa using h47); have := form_many d _ q.2.2.2.1 q.2.2.2.2.2.1 (max (lvl e) 2); omega))] enM (by simp only [go_sem, seval, wdR_len, wdR_pure, strR_len, strR_pure, List.length_append, List.take_of_length_le, shf_len, wrap64 (show -9223372036854775808 ≤ ((wds (e.kids.getD 0 E0) (max (lvl e) 2)).length : Int) + 1 by omega) (by have q := g3 (by simpa using h47); have := form_many d _ q.2.2.2.1 q.2.2.2.2.2.1 (max (lvl e) 2); omega)]; rfl) (by rfl) ?_ ?_
          · have q := g3 (by simpa using h47); have q1 := (l8_le q.2.2.2.1 q.2.2.2.2.2.1 (t := max (lvl e) 2) (b := max (lvl e) 2) (by omega) (by omega)).1; have q2 := (l8_le q.2.2.2.2.1 q.2.2.2.2.2.2.1 (t := lvl e + 1) (b := lvl e + 1) (by omega) (by omega)).1; simp [-List.getD_eq_getElem?_getD, fsOk, wdR_rows]; omega
          refine Exists.intro (()) ⟨?_, ?_⟩
          · exact ⟨by simp_all, hJ⟩
          refine Can.trans (Can.frz 97 (by simp only [go_sem, seval, wdR_len, wdR_pure, strR_len, strR_pure, List.length_append, List.take_of_length_le, shf_len] <;> rfl) (by simp only [go_sem, seval, wdR_len, wdR_pure, strR_len, strR_pure, List.length_append, List.take_of_length_le, shf_len]) (by simp only [go_sem, seval, wdR_len, wdR_pure, strR_len, strR_pure, List.length_append, List.take_of_length_le, shf_len] <;> rfl) (by simp only [go_sem, seval, wdR_len, wdR_pure, strR_len, strR_pure, List.length_append, List.take_of_length_le, shf_len] <;> rfl)) ?_
          exact Can.weak (Weak.lit (by simp only [go_sem, seval, wdR_len, wdR_pure, strR_len, strR_pure, List.length_append, List.take_of_length_le, shf_len, subM, leV, inns, innr, V.inn, us, true_or, or_true] <;> (first | (have k1 : e.kind = 1 := (by simpa using h30); rw [itoa_dec (g1 k1).1]; simp [l8c, k1, wdR, ler_refl]; done) | (have k1 : e.kind = 2 := (by simpa using h39); simp [l8c, k1, wdR, ler_refl]; done) | (have k1 : e.kind = 3 := (by simpa using h47); have q := (g3 k1).2.2.2.2.2.2.2; rw [q, show max (tight e.s) 2 = max 2 (tight e.s) by omega]; simp [l8c, k1, wdR, ler_refl]; done) | trace_state)) (by simp only [go_sem, seval, wdR_len, wdR_pure, strR_len, strR_pure, List.length_append, List.take_of_length_le, shf_len, subM, leV, inns, innr, V.inn, us, true_or, or_true]) (by simp only [go_sem, seval, wdR_len, wdR_pure, strR_len, strR_pure, List.length_append, List.take_of_length_le, shf_len, subM, leV, inns, innr, V.inn, us, true_or, or_true]))
        · refine AWp.seq ?_
          refine AWp.rgn [call0 (ih (e.kids.getD 0 E0) 4 b (g4 (by simp_all)).2.1 (sms_mem a3 _ (getD_mem (by have := g4 (by simp_all); omega))) (g4 (by simp_all)).2.2 (by decide) hb (by decide) hb2), call0 (l8Shift_a (l8 (e.kids.getD 0 E0) 4 b) op (by have q := g4 (by simp_all); have := (l8_le q.2.1 q.2.2 (t := 4) (b := b) (by omega) hb).1; omega) (fun p hp => by have q := g4 (by simp_all); have := (l8_le q.2.1 q.2.2 (t := 4) (b := b) (by omega) hb).2 p hp; omega) (by rw [hJ]; split <;> decide) (by rw [hJ]; split <;> decide))] (by simp only [go_sem, seval, wdR_len, wdR_pure, strR_len, strR_pure, List.length_append, List.take_of_length_le, shf_len, eR_get (show 0 < e.kids.length by have := g4 (by simp_all); omega)]; rfl) ?_ ?_
          · have q := g4 (by simp_all); simp; omega
          refine AWp.ret (And.intro (.inr rfl) ?_)
          exact Out.plain (by simp only [Tryz.results184]; rfl) (by simp only [resCs, resC, go_sem, seval, wdR_len, wdR_pure, strR_len, strR_pure, List.length_append, List.take_of_length_le, shf_len] <;> (split <;> rfl)) (by simp only [resV, go_sem, seval, wdR_len, wdR_pure, strR_len, strR_pure, List.length_append, List.take_of_length_le, shf_len] <;> (have k4 : e.kind = 4 := (by simp_all); rw [l8_as k4 (g4 k4).1, show op = 0 by rw [hJ, if_neg (by rw [hlv, if_neg (by omega)]; omega)], shf_zero])) (by simp only [go_sem, seval, wdR_len, wdR_pure, strR_len, strR_pure, List.length_append, List.take_of_length_le, shf_len])
  refine AWp.seq ?_
  refine AWp.rgn [call0 (l8Shift_a (l8c e) op (by have := hC hJ.1; omega) (fun p hp => by have := (hC hJ.1).2 p hp; omega) (by rw [hJ.2]; split <;> decide) (by rw [hJ.2]; split <;> decide))] (by simp only [go_sem, seval, wdR_len, wdR_pure, strR_len, strR_pure, List.length_append, List.take_of_length_le, shf_len]; rfl) ?_ ?_
  · (first | trivial | (simp; done) | (simp [fsOk, wdR_rows]; done))
  refine AWp.seq ?_
  refine AWp.seq ?_
  refine AWp.rgn [] (by simp only [go_sem, seval, wdR_len, wdR_pure, strR_len, strR_pure, List.length_append, List.take_of_length_le, shf_len]; rfl) ?_ ?_
  · (first | trivial | (simp; done) | (simp [fsOk, wdR_rows]; done))
  refine AWp.condB (by simp only [go_sem, seval, wdR_len, wdR_pure, strR_len, strR_pure, List.length_append, List.take_of_length_le, shf_len]; rfl) (by simp only [go_sem, seval, wdR_len, wdR_pure, strR_len, strR_pure, List.length_append, List.take_of_length_le, shf_len]) (fun h93 => ?_) (fun h93 => ?_)
  · refine AWp.seq ?_
    refine AWp.rgn [] (by simp only [go_sem, seval, wdR_len, wdR_pure, strR_len, strR_pure, List.length_append, List.take_of_length_le, shf_len]; rfl) ?_ ?_
    · have q := hC hJ.1; have q2 := hN hJ.1; simp [fsOk, wdR_rows, wdR_nil', shf, q2]; omega
    refine AWp.frz 110 (by simp only [go_sem, seval, wdR_len, wdR_pure, strR_len, strR_pure, List.length_append, List.take_of_length_le, shf_len]; rfl) (by simp only [go_sem, seval, wdR_len, wdR_pure, strR_len, strR_pure, List.length_append, List.take_of_length_le, shf_len]) (by simp only [go_sem, seval, wdR_len, wdR_pure, strR_len, strR_pure, List.length_append, List.take_of_length_le, shf_len]; rfl) (by simp only [go_sem, seval, wdR_len, wdR_pure, strR_len, strR_pure, List.length_append, List.take_of_length_le, shf_len]; rfl) ?_
    refine AWp.ret (And.intro (.inr rfl) ?_)
    exact Out.plain (by simp only [Tryz.results184]; rfl) (by simp only [resCs, resC, go_sem, seval, wdR_len, wdR_pure, strR_len, strR_pure, List.length_append, List.take_of_length_le, shf_len] <;> (split <;> rfl)) (by simp only [resV, go_sem, seval, wdR_len, wdR_pure, strR_len, strR_pure, List.length_append, List.take_of_length_le, shf_len] <;> (rw [hT hJ.1, h93, hJ.2, if_pos (by omega), List.take_of_length_le (by simp [wdR_len, shf_len]; omega)]; simp [brk, wdR, peel])) (by simp only [go_sem, seval, wdR_len, wdR_pure, strR_len, strR_pure, List.length_append, List.take_of_length_le, shf_len])
  · refine AWp.skip ?_
    refine AWp.seq ?_
    refine AWp.rgn [] (by simp only [go_sem, seval, wdR_len, wdR_pure, strR_len, strR_pure, List.length_append, List.take_of_length_le, shf_len]; rfl) ?_ ?_
    · (first | trivial | (simp; done) | (simp [fsOk, wdR_rows]; done))
    refine AWp.ret (And.intro (.inr rfl) ?_)
    exact Out.plain (by simp only [Tryz.results184]; rfl) (by simp only [resCs, resC, go_sem, seval, wdR_len, wdR_pure, strR_len, strR_pure, List.length_append, List.take_of_length_le, shf_len] <;> (split <;> rfl)) (by simp only [resV, go_sem, seval, wdR_len, wdR_pure, strR_len, strR_pure, List.length_append, List.take_of_length_le, shf_len] <;> (rw [hT hJ.1, h93, hJ.2]; rfl)) (by simp only [go_sem, seval, wdR_len, wdR_pure, strR_len, strR_pure, List.length_append, List.take_of_length_le, shf_len])
theorem l8_5 {e : E} (h : eok e = true) : (l8 e 1 1).length ≤ 3000 ∧ ∀ p ∈ l8 e 1 1, -1 ≤ p.2 ∧ p.2 ≤ 3000 := l8_le (d := 5) (eok_form h) (many_5 h) (by decide) (by decide)
theorem l8_ne {e : E} (h : eok e = true) : l8 e 1 1 ≠ [] := fun e0 => by
  have T := trc_src 5 e 1 1 0 (eok_form h) (by decide) (by decide) (by decide)
  have h1 := bare_form 5 e (eok_form h)
  have h2 := (wds_le 5 (bare e) 1 h1.1).1
  have h3 := T.len
  rw [e0, srcLen] at h3
  simp only [List.length_nil] at h3; omega
theorem l8Line_a (s : Sl) (h : sok0 s = true) (hs : sms' s = true) : ACall En 141 [.ag (sC s)] [] [.sl false (wdR (l8L s))] [] := by
  obtain ⟨h0, h1, h2⟩ := sok0_open h
  obtain ⟨s1, s1', s2, s3⟩ := sms_open hs
  have X : s.kind = 1 ∨ s.kind = 2 ∨ s.kind = 3 → _ := fun hk => l8Expr_a 5 s.expr 1 1 (eok_form (h1 hk)) s2 (many_5 (h1 hk)) (by decide) (by decide) (by decide) (by decide)
  have X3 : s.kind = 3 → _ := fun hk => l8Expr_a 5 s.thn 1 1 (eok_form (h2 hk)) s3 (many_5 (h2 hk)) (by decide) (by decide) (by decide) (by decide)
  have W : s.kind = 3 → _ := fun hk => l4Words_a 5 s.expr 1 (eok_form (h1 (.inr (.inr hk)))) s2 (many_5 (h1 (.inr (.inr hk)))) (by decide) (by decide)
  have Sh : s.kind = 1 ∨ s.kind = 2 ∨ s.kind = 3 → ∀ n : Int, 0 ≤ n → n ≤ 1000000 → _ := fun hk n hn hn2 => l8Shift_a (l8 s.expr 1 1) n (by have := (l8_5 (h1 hk)).1; omega) (fun p hp => by have := (l8_5 (h1 hk)).2 p hp; omega) hn hn2
  have Sh3 : s.kind = 3 → ∀ n : Int, 0 ≤ n → n ≤ 1000000 → _ := fun hk n hn hn2 => l8Shift_a (l8 s.thn 1 1) n (by have := (l8_5 (h2 hk)).1; omega) (fun p hp => by have := (l8_5 (h2 hk)).2 p hp; omega) hn hn2
  have hW : s.kind = 3 → (wds s.expr 1).length ≤ 36 := fun hk => (eok_wds (h1 (.inr (.inr hk))) 1).2.1
  refine acall_of_body (fn := Tryz.f141) [] Tryz.func141 rfl rfl (by simp) fun C => ?_
  rw [entry_eq]
  simp only [Tryz.ntmps141, List.length_cons, List.length_nil, Nat.reduceAdd, Nat.reduceSub, List.replicate_succ, List.replicate_zero, List.cons_append, List.nil_append, numL]
  refine AWp.seq ?_
  refine AWp.rgn [] (by simp only [go_sem, seval, wdR_len, wdR_pure, strR_len, strR_pure, List.length_append, List.take_of_length_le, shf_len, sC_eq]; rfl) ?_ ?_
  · (first | trivial | (simp; done) | (simp [fsOk, wdR_rows]; done))
  refine AWp.seq ?_
  refine AWp.seq ?_
  refine AWp.rgn [] (by simp only [go_sem, seval, wdR_len, wdR_pure, strR_len, strR_pure, List.length_append, List.take_of_length_le, shf_len, sC_eq]; rfl) ?_ ?_
  · (first | trivial | (simp; done) | (simp [fsOk, wdR_rows]; done))
  refine AWp.block ?_
  refine AWp.seq ?_
  refine AWp.rgn [] (by simp only [go_sem, seval, wdR_len, wdR_pure, strR_len, strR_pure, List.length_append, List.take_of_length_le, shf_len, sC_eq]; rfl) ?_ ?_
  · (first | trivial | (simp; done) | (simp [fsOk, wdR_rows]; done))
  refine AWp.condB (by simp only [go_sem, seval, wdR_len, wdR_pure, strR_len, strR_pure, List.length_append, List.take_of_length_le, shf_len, sC_eq]; rfl) (by simp only [go_sem, seval, wdR_len, wdR_pure, strR_len, strR_pure, List.length_append, List.take_of_length_le, shf_len, sC_eq]) (fun h7 => ?_) (fun h7 => ?_)
  · refine AWp.seq ?_
    refine AWp.rgnD [call0 (X (.inl (by simpa using h7))), call0 (Sh (.inl (by simpa using h7)) 5 (by decide) (by decide))] enM (by simp only [go_sem, seval, wdR_len, wdR_pure, strR_len, strR_pure, List.length_append, List.take_of_length_le, shf_len, sC_eq]; rfl) (by rfl) ?_ ?_
    · have k := h1 (.inl (by simpa using h7)); have q := (l8_5 k).1; have q2 := l8_ne k; simp [fsOk, wdR_rows, wdR_nil', shf, q2]; omega
    refine AWp.frz 28 (by simp only [go_sem, seval, wdR_len, wdR_pure, strR_len, strR_pure, List.length_append, List.take_of_length_le, shf_len, sC_eq]; rfl) (by simp only [go_sem, seval, wdR_len, wdR_pure, strR_len, strR_pure, List.length_append, List.take_of_length_le, shf_len, sC_eq]) (by simp only [go_sem, seval, wdR_len, wdR_pure, strR_len, strR_pure, List.length_append, List.take_of_length_le, shf_len, sC_eq]; rfl) (by simp only [go_sem, seval, wdR_len, wdR_pure, strR_len, strR_pure, List.length_append, List.take_of_length_le, shf_len, sC_eq]; rfl) ?_
    refine AWp.ret (And.intro (.inr rfl) ?_)
    exact Out.plain (by simp only [Tryz.results141]; rfl) (by simp only [resCs, resC, go_sem, seval, wdR_len, wdR_pure, strR_len, strR_pure, List.length_append, List.take_of_length_le, shf_len, sC_eq] <;> (split <;> rfl)) (by simp only [resV, go_sem, seval, wdR_len, wdR_pure, strR_len, strR_pure, List.length_append, List.take_of_length_le, shf_len, sC_eq] <;> (have k : s.kind = 1 := (by simpa using h7); rw [if_pos (by omega), List.take_of_length_le (by simp [wdR_len, shf_len]; omega)]; simp [l8L, k, wdR, peel, wEq])) (by simp only [go_sem, seval, wdR_len, wdR_pure, strR_len, strR_pure, List.length_append, List.take_of_length_le, shf_len, sC_eq])
  · refine AWp.seq ?_
    refine AWp.rgn [] (by simp only [go_sem, seval, wdR_len, wdR_pure, strR_len, strR_pure, List.length_append, List.take_of_length_le, shf_len, sC_eq]; rfl) ?_ ?_
    · (first | trivial | (simp; done) | (simp [fsOk, wdR_rows]; done))
    refine AWp.condB (by simp only [go_sem, seval, wdR_len, wdR_pure, strR_len, strR_pure, List.length_append, List.take_of_length_le, shf_len, sC_eq]; rfl) (by simp only [go_sem, seval, wdR_len, wdR_pure, strR_len, strR_pure, List.length_append, List.take_of_length_le, shf_len, sC_eq]) (fun h19 => ?_) (fun h19 => ?_)
    · refine AWp.seq ?_
      refine AWp.rgn [call0 (X (.inr (.inl (by simpa using h19)))), call0 (Sh (.inr (.inl (by simpa using h19))) 1 (by decide) (by decide))] (by simp only [go_sem, seval, wdR_len, wdR_pure, strR_len, strR_pure, List.length_append, List.take_of_length_le, shf_len, sC_eq]; rfl) ?_ ?_
      · have k := h1 (.inr (.inl (by simpa using h19))); have q := (l8_5 k).1; have q2 := l8_ne k; simp [fsOk, wdR_rows, wdR_nil', shf, q2]; omega
      refine AWp.frz 37 (by simp only [go_sem, seval, wdR_len, wdR_pure, strR_len, strR_pure, List.length_append, List.take_of_length_le, shf_len, sC_eq]; rfl) (by simp only [go_sem, seval, wdR_len, wdR_pure, strR_len, strR_pure, List.length_append, List.take_of_length_le, shf_len, sC_eq]) (by simp only [go_sem, seval, wdR_len, wdR_pure, strR_len, strR_pure, List.length_append, List.take_of_length_le, shf_len, sC_eq]; rfl) (by simp only [go_sem, seval, wdR_len, wdR_pure, strR_len, strR_pure, List.length_append, List.take_of_length_le, shf_len, sC_eq]; rfl) ?_
      refine AWp.ret (And.intro (.inr rfl) ?_)
      exact Out.plain (by simp only [Tryz.results141]; rfl) (by simp only [resCs, resC, go_sem, seval, wdR_len, wdR_pure, strR_len, strR_pure, List.length_append, List.take_of_length_le, shf_len, sC_eq] <;> (split <;> rfl)) (by simp only [resV, go_sem, seval, wdR_len, wdR_pure, strR_len, strR_pure, List.length_append, List.take_of_length_le, shf_len, sC_eq] <;> (have k : s.kind = 2 := (by simpa using h19); rw [if_pos (by omega), List.take_of_length_le (by simp [wdR_len, shf_len]; omega)]; simp [l8L, k, wdR, peel, wPrint])) (by simp only [go_sem, seval, wdR_len, wdR_pure, strR_len, strR_pure, List.length_append, List.take_of_length_le, shf_len, sC_eq])
    · refine AWp.seq ?_
      refine AWp.rgn [] (by simp only [go_sem, seval, wdR_len, wdR_pure, strR_len, strR_pure, List.length_append, List.take_of_length_le, shf_len, sC_eq]; rfl) ?_ ?_
      · (first | trivial | (simp; done) | (simp [fsOk, wdR_rows]; done))
      refine AWp.condB (by simp only [go_sem, seval, wdR_len, wdR_pure, strR_len, strR_pure, List.length_append, List.take_of_length_le, shf_len, sC_eq]; rfl) (by simp only [go_sem, seval, wdR_len, wdR_pure, strR_len, strR_pure, List.length_append, List.take_of_length_le, shf_len, sC_eq]) (fun h28 => ?_) (fun h28 => ?_)
      · refine AWp.seq ?_
        refine AWp.rgn [call0 (W (by simpa using h28))] (by simp only [go_sem, seval, wdR_len, wdR_pure, strR_len, strR_pure, List.length_append, List.take_of_length_le, shf_len, sC_eq]; rfl) ?_ ?_
        · (first | trivial | (simp; done) | (simp [fsOk, wdR_rows]; done))
        refine AWp.seq ?_
        refine AWp.rgn [call0 (X (.inr (.inr (by simpa using h28)))), call0 (Sh (.inr (.inr (by simpa using h28))) 1 (by decide) (by decide))] (by simp only [go_sem, seval, wdR_len, wdR_pure, strR_len, strR_pure, List.length_append, List.take_of_length_le, shf_len, sC_eq]; rfl) ?_ ?_
        · have k := h1 (.inr (.inr (by simpa using h28))); have q := (l8_5 k).1; have q2 := l8_ne k; simp [fsOk, wdR_rows, wdR_nil', shf, q2]; omega
        refine AWp.seq ?_
        refine AWp.rgn [] (by simp only [go_sem, seval, wdR_len, wdR_pure, strR_len, strR_pure, List.length_append, List.take_of_length_le, shf_len, sC_eq, wrap64 (show -9223372036854775808 ≤ ((wds s.expr 1).length : Int) + 1 by omega) (by have := hW (by simpa using h28); omega)]; rfl) ?_ ?_
        · have k := h1 (.inr (.inr (by simpa using h28))); have q := (l8_5 k).1; simp [fsOk, wdR_rows]; omega
        refine AWp.seq ?_
        refine AWp.rgn [call0 (X3 (by simpa using h28)), call0 (Sh3 (by simpa using h28) ((wds s.expr 1).length + 2) (by omega) (by have := hW (by simpa using h28); omega))] (by simp only [go_sem, seval, wdR_len, wdR_pure, strR_len, strR_pure, List.length_append, List.take_of_length_le, shf_len, sC_eq, wrap64 (show -9223372036854775808 ≤ ((wds s.expr 1).length : Int) + 2 by omega) (by have := hW (by simpa using h28); omega)]; rfl) ?_ ?_
        · have k := h1 (.inr (.inr (by simpa using h28))); have q := (l8_5 k).1; have k2 := h2 (by simpa using h28); have q2 := (l8_5 k2).1; simp [fsOk, wdR_rows]; omega
        refine AWp.frz 65 (by simp only [go_sem, seval, wdR_len, wdR_pure, strR_len, strR_pure, List.length_append, List.take_of_length_le, shf_len, sC_eq]; rfl) (by simp only [go_sem, seval, wdR_len, wdR_pure, strR_len, strR_pure, List.length_append, List.take_of_length_le, shf_len, sC_eq]) (by simp only [go_sem, seval, wdR_len, wdR_pure, strR_len, strR_pure, List.length_append, List.take_of_length_le, shf_len, sC_eq]; rfl) (by simp only [go_sem, seval, wdR_len, wdR_pure, strR_len, strR_pure, List.length_append, List.take_of_length_le, shf_len, sC_eq]; rfl) ?_
        refine AWp.ret (And.intro (.inr rfl) ?_)
        exact Out.plain (by simp only [Tryz.results141]; rfl) (by simp only [resCs, resC, go_sem, seval, wdR_len, wdR_pure, strR_len, strR_pure, List.length_append, List.take_of_length_le, shf_len, sC_eq] <;> (split <;> rfl)) (by simp only [resV, go_sem, seval, wdR_len, wdR_pure, strR_len, strR_pure, List.length_append, List.take_of_length_le, shf_len, sC_eq] <;> (have k : s.kind = 3 := (by simpa using h28); rw [if_pos (by omega), List.take_of_length_le (by simp [wdR_len, shf_len]; omega)]; simp [l8L, k, wdR, peel, wPrint, wIf, wCol])) (by simp only [go_sem, seval, wdR_len, wdR_pure, strR_len, strR_pure, List.length_append, List.take_of_length_le, shf_len, sC_eq])
      · refine AWp.skip ?_
        refine AWp.seq ?_
        refine AWp.rgn [] (by simp only [go_sem, seval, wdR_len, wdR_pure, strR_len, strR_pure, List.length_append, List.take_of_length_le, shf_len, sC_eq]; rfl) ?_ ?_
        · (first | trivial | (simp; done) | (simp [fsOk, wdR_rows]; done))
        refine AWp.can (Can.slotLe 2 (.sl false []) (by simp only [go_sem, seval, wdR_len, wdR_pure, strR_len, strR_pure, List.length_append, List.take_of_length_le, shf_len, sC_eq] <;> trivial) (by simp only [go_sem, seval, wdR_len, wdR_pure, strR_len, strR_pure, List.length_append, List.take_of_length_le, shf_len, sC_eq] <;> rfl)) ?_
        refine AWp.ret (And.intro (.inr rfl) ?_)
        exact Out.plain (by simp only [Tryz.results141]; rfl) (by simp only [resCs, resC, go_sem, seval, wdR_len, wdR_pure, strR_len, strR_pure, List.length_append, List.take_of_length_le, shf_len, sC_eq] <;> (split <;> rfl)) (by simp only [resV, go_sem, seval, wdR_len, wdR_pure, strR_len, strR_pure, List.length_append, List.take_of_length_le, shf_len, sC_eq] <;> (have k : s.kind = 0 := (by simp_all); simp [l8L, k, wdR])) (by simp only [go_sem, seval, wdR_len, wdR_pure, strR_len, strR_pure, List.length_append, List.take_of_length_le, shf_len, sC_eq])
theorem sok_len {s : Sl} (h : sok0 s = true) : (l8L s).length = (bw (bof s)).length ∧ (l8L s).map (·.1) = bw (bof s) := by
  obtain ⟨h0, h1, h2⟩ := sok0_open h
  have T : ∀ e : E, eok e = true → (l8 e 1 1).map (·.1) = wds (bare e) 1 := fun e he => by
    rw [(trc_src 5 e 1 1 0 (eok_form he) (by decide) (by decide) (by decide)).fst, src_wds]
  have hm : (l8L s).map (·.1) = bw (bof s) := by
    unfold l8L bw bof
    rcases h0 with k | k | k | k
    · simp [k]
    · simp [k, shf_fst, T _ (h1 (.inl k))]
    · simp [k, shf_fst, T _ (h1 (.inr (.inl k)))]
    · simp [k, shf_fst, T _ (h1 (.inr (.inr k))), T _ (h2 k)]
  exact ⟨by rw [← hm, List.length_map], hm⟩
end

section
set_option maxRecDepth 100000
set_option maxHeartbeats 4000000

theorem src_01 {e : E} {d : Int} (h : form e d = true) (nx : Int) : src e 1 nx = src e 0 nx := by
  rw [src_brk h 1 nx]
  obtain ⟨_, h1 | h1 | h1 | h1⟩ := form_open h
  · simp [h1.1, brk]
  · simp [h1.1, brk]
  · have := isOp_tight h1.2.2.1
    rw [decide_eq_false (show ¬ tight e.s < 1 by omega), Bool.and_false]; rfl
  · simp [h1.1, brk]
def Ltr (L : Wd) : Wd → Wd → Prop
  | [], [] => True
  | w :: B, c :: C => c.1 = w.1 ∧ ((w.2 = -1 ∧ c.2 = -1 ∧ (w.1 = [40] ∨ w.1 = [41] ∨ w.1 = wCol)) ∨ (0 ≤ w.2 ∧ 0 ≤ c.2 ∧ ∃ u, L[c.2.toNat]? = some u ∧ u.2 = w.2 ∧ (u.1 = w.1 ∨ (u.1 = wSay ∧ w.1 = wPrint) ∨ (u.1 = wWhen ∧ w.1 = wIf)))) ∧ Ltr L B C
  | _, _ => False
theorem Ltr.app {L : Wd} : ∀ {B C B' C' : Wd}, Ltr L B C → Ltr L B' C' → Ltr L (B ++ B') (C ++ C')
  | [], [], _, _, _, h => h
  | [], _ :: _, _, _, h, _ => by simp [Ltr] at h
  | _ :: _, [], _, _, h, _ => by simp [Ltr] at h
  | w :: B, c :: C, B', C', h, k => by
    simp only [Ltr] at h
    simp only [List.cons_append, Ltr]
    exact ⟨h.1, h.2.1, h.2.2.app k⟩
theorem Ltr.right {L Q : Wd} : ∀ {B C : Wd}, Ltr L B C → Ltr (L ++ Q) B C
  | [], [], _ => by simp [Ltr]
  | [], _ :: _, h => by simp [Ltr] at h
  | _ :: _, [], h => by simp [Ltr] at h
  | w :: B, c :: C, h => by
    simp only [Ltr] at h ⊢
    refine ⟨h.1, ?_, h.2.2.right⟩
    rcases h.2.1 with h1 | ⟨h1, h2, u, h3, h4⟩
    · exact .inl h1
    · exact .inr ⟨h1, h2, u, by rw [List.getElem?_append_left (List.getElem?_eq_some_iff.1 h3).1]; exact h3, h4⟩
def brkOnly (l : Wd) : Prop := ∀ p ∈ l, p.2 = -1 → p.1 = [40] ∨ p.1 = [41]
theorem brk_src : ∀ (d : Nat) (e : E) (must nx : Int), form e d = true → pla e = true → 0 ≤ nx → brkOnly (src e must nx)
  | 0, e, must, nx, h, _, _ => by have := (form_open h).1; omega
  | d + 1, e, must, nx, h, hp, hn0 => by
    have e1 : ((d + 1 : Nat) : Int) - 1 = (d : Int) := by omega
    obtain ⟨h0, h1 | h1 | h1 | h1⟩ := form_open h
    · rw [src_num h1.1]; intro p hp h; simp at hp; subst hp; dsimp only at h; omega
    · rw [src_name h1.1]; intro p hp h; simp at hp; subst hp; dsimp only at h; omega
    · obtain ⟨k, hn, ho, hl, ha, hb⟩ := h1
      rw [e1] at ha hb
      have hpk : plas e.kids = true := by rw [pla_eq] at hp; simp only [Bool.and_eq_true] at hp; exact hp.2
      rw [kids_two hl] at hpk
      simp only [plas, Bool.and_true, Bool.and_eq_true] at hpk
      have hc := wds_le d _ 0 ha
      have A := brk_src d _ (max 2 (tight e.s)) (nx + 1) ha hpk.1 (by omega)
      have B := brk_src d _ (tight e.s + 1) (nx + 1 + cnt (e.kids.getD 0 E0)) hb hpk.2 (by omega)
      rw [src_two k hl]
      have core : brkOnly (src (e.kids.getD 0 E0) (max 2 (tight e.s)) (nx + 1) ++ (e.s, nx) :: src (e.kids.getD 1 E0) (tight e.s + 1) (nx + 1 + cnt (e.kids.getD 0 E0))) := by
        intro p hp h
        rcases List.mem_append.1 hp with hp | hp
        · exact A p hp h
        · rcases List.mem_cons.1 hp with rfl | hp
          · dsimp only at h; omega
          · exact B p hp h
      cases decide (tight e.s < must) with
      | false => exact core
      | true =>
        intro p hp h
        simp only [brk, if_true, List.mem_cons, List.mem_append, List.not_mem_nil, or_false] at hp
        rcases hp with rfl | hp | rfl
        · exact .inl rfl
        · exact core p (by simpa using hp) h
        · exact .inr rfl
    · rw [pla_eq] at hp; simp [h1.1] at hp
theorem Ltr.of {L P : Wd} : ∀ {B C : Wd}, brkOnly B → Trc L B C → Ltr (P ++ L) B (shf P.length C)
  | [], [], _, _ => by simp [shf, Ltr]
  | [], _ :: _, _, h => by simp [Trc] at h
  | _ :: _, [], _, h => by simp [Trc] at h
  | w :: B, c :: C, hb, h => by
    simp only [Trc] at h
    have ih := Ltr.of (P := P) (fun p hp => hb p (List.mem_cons_of_mem _ hp)) h.2.2
    simp only [shf, List.map_cons, Ltr] at ih ⊢
    rcases h.2.1 with ⟨h1, h2⟩ | ⟨h1, h2, h3⟩
    · rw [if_neg (by omega)]
      refine ⟨h.1, .inl ⟨h1, h2, ?_⟩, ih⟩
      rcases hb w List.mem_cons_self h1 with q | q
      · exact .inl q
      · exact .inr (.inl q)
    · rw [if_pos h2]
      refine ⟨h.1, .inr ⟨h1, by dsimp only; omega, w, ?_, rfl, .inl rfl⟩, ih⟩
      dsimp only
      rw [show (c.2 + (P.length : Int)).toNat = P.length + c.2.toNat by omega, List.getElem?_append_right (by omega), Nat.add_sub_cancel_left]
      exact h3
theorem ltr_expr {e : E} (h : eok e = true) (P : Wd) (nx : Int) (hn : 0 ≤ nx) : Ltr (P ++ src e 0 nx) (src (bare e) 0 nx) (shf P.length (l8 e 1 1)) := by
  have hb := bare_form 5 e (eok_form h)
  have T := trc_src 5 e 1 1 nx (eok_form h) (by decide) (by decide) hn
  rw [src_01 (eok_form h), src_01 hb.1] at T
  exact Ltr.of (brk_src 5 _ 0 nx hb.1 (pla_bare e (eok_wf h)) hn) T
theorem ltr_line {s : Sl} (h : sok0 s = true) : Ltr (ssrc s) (bsrc (bof s)) (l8L s) := by
  obtain ⟨h0, h1, h2⟩ := sok0_open h
  unfold ssrc bsrc bof l8L
  rcases h0 with k | k | k | k
  · simp [k, Ltr]
  · have q := ltr_expr (h1 (.inl k)) [(wLet, 100), (s.name, 101), (wCol, -1), (s.type, -1), (wEq, 102)] 0 (by decide)
    simp only [k, if_true, show ¬ (1 : Int) = 0 by omega, if_false]
    simp only [List.cons_append, List.nil_append, List.length_cons, List.length_nil] at q
    simp only [Ltr]
    exact ⟨trivial, .inr ⟨by decide, by decide, (s.name, 101), rfl, rfl, .inl rfl⟩, trivial, .inr ⟨by decide, by decide, (wEq, 102), rfl, rfl, .inl rfl⟩, q⟩
  · have q := ltr_expr (h1 (.inr (.inl k))) [(wSay, 103)] 0 (by decide)
    simp only [k, if_true, show ¬ (2 : Int) = 0 by omega, show ¬ (2 : Int) = 1 by omega, if_false]
    simp only [List.cons_append, List.nil_append, List.length_cons, List.length_nil] at q
    simp only [Ltr]
    exact ⟨trivial, .inr ⟨by decide, by decide, (wSay, 103), rfl, rfl, .inr (.inl ⟨rfl, trivial⟩)⟩, q⟩
  · have he := h1 (.inr (.inr k))
    have q := ltr_expr he [(wWhen, 100)] 0 (by decide)
    have hc := (wds_le 5 _ 0 (eok_form he)).2.2.2
    have q2 := ltr_expr (h2 k) ((wWhen, 100) :: src s.expr 0 0 ++ [(wSay, 103)]) (cnt s.expr) (by omega)
    have hl : (src s.expr 0 0).length = (wds s.expr 1).length := by rw [srcLen, wds_one (eok_form he)]
    simp only [k, if_true, show ¬ (3 : Int) = 0 by omega, show ¬ (3 : Int) = 1 by omega, show ¬ (3 : Int) = 2 by omega, if_false]
    rw [cnt_bare 5 _ (eok_form he)]
    refine Ltr.app (Ltr.app (B := (wIf, 100) :: _) (C := (wIf, 0) :: _) ?_ ?_) ?_
    · simp only [List.cons_append, List.nil_append, List.length_cons, List.length_nil] at q
      simp only [Ltr]
      refine ⟨trivial, .inr ⟨by decide, by decide, (wWhen, 100), rfl, rfl, .inr (.inr ⟨rfl, trivial⟩)⟩, ?_⟩
      have := (q.right (Q := [(wSay, 103)])).right (Q := src s.thn 0 (cnt s.expr))
      simpa using this
    · simp only [Ltr]
      refine ⟨trivial, .inl ⟨trivial, trivial, .inr (.inr trivial)⟩, trivial, .inr ⟨by decide, by omega, (wSay, 103), ?_, rfl, .inr (.inl ⟨rfl, trivial⟩)⟩, trivial⟩
      rw [← hl, show (((src s.expr 0 0).length : Int) + 1).toNat = (src s.expr 0 0).length + 1 by omega]
      simp
    · have e2 : ((((wWhen, 100) :: src s.expr 0 0 ++ [(wSay, 103)] : Wd).length : Nat) : Int) = ((wds s.expr 1).length : Int) + 2 := by rw [← hl]; simp; omega
      rw [e2] at q2
      simpa using q2
theorem ids_line {s : Sl} (h : sok0 s = true) : (ids (ssrc s)).Nodup := by
  obtain ⟨h0, h1, h2⟩ := sok0_open h
  have I : ∀ e : E, eok e = true → ∀ nx : Int, 0 ≤ nx → nx ≤ 12 → (ids (src e 0 nx)).Nodup ∧ ∀ i ∈ ids (src e 0 nx), nx ≤ i ∧ i < nx + cnt e ∧ i < 100 := fun e he nx hn hn2 => by
    have := ids_src 5 e 0 nx (eok_form he) hn
    have hc := cnt_5 he
    exact ⟨this.1, fun i hi => by have := this.2 i hi; omega⟩
  unfold ssrc
  rcases h0 with k | k | k | k
  · simp [k, ids]
  · obtain ⟨i1, i2⟩ := I _ (h1 (.inl k)) 0 (by decide) (by decide)
    simp only [k, if_true, ids_cons, show (0 : Int) ≤ 100 by omega, show (0 : Int) ≤ 101 by omega, show (0 : Int) ≤ 102 by omega, show ¬ (0 : Int) ≤ -1 by omega, if_false]
    simp only [List.nodup_cons, List.mem_cons]
    exact ⟨fun h => by rcases h with h | h | h; omega; omega; have := i2 _ h; omega, fun h => by rcases h with h | h; omega; have := i2 _ h; omega, fun h => by have := i2 _ h; omega, i1⟩
  · obtain ⟨i1, i2⟩ := I _ (h1 (.inr (.inl k))) 0 (by decide) (by decide)
    simp only [k, if_true, show ¬ (2 : Int) = 1 by omega, if_false, ids_cons, show (0 : Int) ≤ 103 by omega, List.nodup_cons]
    exact ⟨fun h => by have := i2 _ h; omega, i1⟩
  · have he := h1 (.inr (.inr k))
    have hc := cnt_5 he
    obtain ⟨i1, i2⟩ := I _ he 0 (by decide) (by decide)
    obtain ⟨j1, j2⟩ := I _ (h2 k) (cnt s.expr) (by omega) (by omega)
    rw [if_neg (by omega), if_neg (by omega), if_pos k]
    have e1 : ids ((wWhen, 100) :: src s.expr 0 0 ++ [(wSay, 103)] ++ src s.thn 0 (cnt s.expr)) = 100 :: (ids (src s.expr 0 0) ++ 103 :: ids (src s.thn 0 (cnt s.expr))) := by
      simp [ids_app, ids_cons, ids_nil]
    rw [e1]
    refine List.nodup_cons.2 ⟨fun h => ?_, List.nodup_append.2 ⟨i1, List.nodup_cons.2 ⟨fun h => by have := j2 _ h; omega, j1⟩, fun a ha b hb => ?_⟩⟩
    · rcases List.mem_append.1 h with h | h
      · have := i2 _ h; omega
      · rcases List.mem_cons.1 h with h | h
        · omega
        · have := j2 _ h; omega
    · have q := i2 a ha
      rcases List.mem_cons.1 hb with rfl | hb
      · omega
      · have := j2 b hb; omega
def fromI (s : Sl) : List Int := (bsrc (bof s)).map fun w => if w.2 < 0 then -1 else colOf 0 (ssrc s) w.2
theorem Ltr.len {L : Wd} : ∀ {B C : Wd}, Ltr L B C → C.length = B.length
  | [], [], _ => rfl
  | [], _ :: _, h => by simp [Ltr] at h
  | _ :: _, [], h => by simp [Ltr] at h
  | w :: B, c :: C, h => by
    simp only [Ltr] at h
    simp only [List.length_cons, h.2.2.len]
theorem Ltr.get {L : Wd} : ∀ {B C : Wd}, Ltr L B C → ∀ {j : Nat} {w : Str × Int}, B[j]? = some w → ∃ c, C[j]? = some c ∧ c.1 = w.1 ∧ ((w.2 = -1 ∧ c.2 = -1 ∧ (w.1 = [40] ∨ w.1 = [41] ∨ w.1 = wCol)) ∨ (0 ≤ w.2 ∧ 0 ≤ c.2 ∧ ∃ u, L[c.2.toNat]? = some u ∧ u.2 = w.2 ∧ (u.1 = w.1 ∨ (u.1 = wSay ∧ w.1 = wPrint) ∨ (u.1 = wWhen ∧ w.1 = wIf))))
  | [], [], _, j, w, hw => by simp at hw
  | [], _ :: _, h, _, _, _ => by simp [Ltr] at h
  | _ :: _, [], h, _, _, _ => by simp [Ltr] at h
  | v :: B, c :: C, h, j, w, hw => by
    simp only [Ltr] at h
    cases j with
    | zero =>
      simp only [List.getElem?_cons_zero, Option.some.injEq] at hw; subst hw
      exact ⟨c, rfl, h.1, h.2.1⟩
    | succ j =>
      simp only [List.getElem?_cons_succ] at hw ⊢
      exact h.2.2.get hw
theorem from_eq {s : Sl} (h : sok0 s = true) : fromS s = fromI s := by
  have T := ltr_line h
  have hn := ids_line h
  have hm := ssrc_sw h
  unfold fromS fromI
  apply List.ext_getElem?
  intro j
  rw [List.getElem?_map, List.getElem?_map]
  cases hj : (bsrc (bof s))[j]? with
  | none =>
    have : (l8L s)[j]? = none := List.getElem?_eq_none (by rw [T.len]; exact List.getElem?_eq_none_iff.1 hj)
    rw [this]; rfl
  | some w =>
    obtain ⟨c, c1, c2, c3⟩ := T.get hj
    rw [c1]
    simp only [Option.map_some, Option.some.injEq]
    rcases c3 with ⟨q1, q2, _⟩ | ⟨q1, q2, u, q3, q4, _⟩
    · rw [if_pos (by omega), if_pos (by omega)]
    · rw [if_neg (by omega), if_neg (by omega)]
      have := colOf_at 0 hn q3 (by omega)
      rw [hm, q4] at this
      rw [List.getD_eq_getElem?_getD, this]; rfl
theorem ids_has {s : Sl} (h : sok0 s = true) {w : Str × Int} (hw : w ∈ bsrc (bof s)) (h0 : 0 ≤ w.2) : w.2 ∈ ids (ssrc s) := by
  obtain ⟨j, hj⟩ := List.mem_iff_getElem?.1 hw
  obtain ⟨c, _, _, c3⟩ := (ltr_line h).get hj
  rcases c3 with ⟨q1, _⟩ | ⟨_, _, u, q3, q4, _⟩
  · omega
  · exact mem_ids.2 ⟨List.mem_map.2 ⟨u, List.mem_of_getElem? q3, q4⟩, h0⟩
theorem at_lt {s : Sl} (h : sok0 s = true) : ∀ p ∈ l8L s, p.2 < ((sw' s).length : Int) := fun p hp => by
  have T := ltr_line h
  obtain ⟨j, hj⟩ := List.mem_iff_getElem?.1 hp
  have hl := (List.getElem?_eq_some_iff.1 hj).1
  rw [T.len] at hl
  obtain ⟨c, c1, _, c3⟩ := T.get (List.getElem?_eq_getElem hl)
  rw [hj] at c1; cases c1
  rcases c3 with ⟨_, q2, _⟩ | ⟨_, q2, u, q3, _⟩
  · omega
  · have := (List.getElem?_eq_some_iff.1 q3).1
    have e : (ssrc s).length = (sw' s).length := by rw [← ssrc_sw h, List.length_map]
    omega
end

section
set_option maxRecDepth 100000
set_option maxHeartbeats 4000000

def emT (s : Sl) : Str := if sok s then tokText (bw (bof s)) else []
def emF (s : Sl) : List Int := if sok s then fromI s else []
theorem sw_wid {s : Sl} (h : sok0 s = true) : wid (sw' s) ≤ 1000 := by
  have := sw_le h
  have h2 := sum_le (fun s hs => (this.2 s hs).2)
  rw [wid_sum]; omega
theorem fromS_len (s : Sl) : (fromS s).length = (l8L s).length := by simp [fromS]
theorem fromS_get {s : Sl} {k : Nat} (h : k < (l8L s).length) : (fromS s).getD k 0 = if ((l8L s).getD k ([], 0)).2 < 0 then -1 else (colsOf 0 (sw' s)).getD ((l8L s).getD k ([], 0)).2.toNat 0 := by
  simp [fromS, List.getD_eq_getElem?_getD, List.getElem?_eq_getElem h]
theorem inR_snoc {l : List Int} {k : Nat} (h : k < l.length) : inR (l.take (k + 1)) = inR (l.take k) ++ [[.i .i64 (l.getD k 0)]] := by
  rw [List.take_add_one, List.getElem?_eq_getElem h, inR_app, List.getD_eq_getElem?_getD, List.getElem?_eq_getElem h]; rfl
theorem strR_snoc {l : List Str} {k : Nat} (h : k < l.length) : strR (l.take (k + 1)) = strR (l.take k) ++ [[.s (l.getD k [])]] := by
  rw [List.take_add_one, List.getElem?_eq_getElem h, strR_app, List.getD_eq_getElem?_getD, List.getElem?_eq_getElem h]; rfl
theorem fst_at {l : Wd} {k : Nat} (h : k < l.length) : (l.map (·.1)).getD k [] = (l.getD k ([], 0)).1 := by
  simp [List.getD_eq_getElem?_getD, List.getElem?_eq_getElem h]
theorem sEmitLine_a (s : Sl) (hs : sms' s = true) : ACall En 68 [.ag (sC s)] [] [.s (emT s), .sl false (inR (emF s))] [] := by
  have L : sok s = true → (l8L s).length ≤ 76 := fun h => by have := (bw_le (bok0_bof (sok_0 h))).1; have := (sok_len (sok_0 h)).1; omega
  have hm : sok s = true → (l8L s).map (·.1) = bw (bof s) := fun h => (sok_len (sok_0 h)).2
  refine acall_of_body (fn := Tryz.f68) [] Tryz.func68 rfl rfl (by simp) fun C => ?_
  rw [entry_eq]
  simp only [Tryz.ntmps68, List.length_cons, List.length_nil, Nat.reduceAdd, Nat.reduceSub, List.replicate_succ, List.replicate_zero, List.cons_append, List.nil_append, numL]
  refine AWp.seq ?_
  refine AWp.rgn [] (by simp only [go_sem, seval, sC_eq, wdR_len, wdR_pure, strR_len, strR_pure, inR_len, inR_pure, colsOf_len]; rfl) ?_ ?_
  · (first | trivial | (simp; done) | (simp at h23; simp; omega))
  refine AWp.seq ?_
  refine AWp.seq ?_
  refine AWp.rgn [call0 (sStmtOk_a s hs)] (by simp only [go_sem, seval, sC_eq, wdR_len, wdR_pure, strR_len, strR_pure, inR_len, inR_pure, colsOf_len]; rfl) ?_ ?_
  · (first | trivial | (simp; done) | (simp at h23; simp; omega))
  refine AWp.condB (by simp only [go_sem, seval, sC_eq, wdR_len, wdR_pure, strR_len, strR_pure, inR_len, inR_pure, colsOf_len]; rfl) (by simp only [go_sem, seval, sC_eq, wdR_len, wdR_pure, strR_len, strR_pure, inR_len, inR_pure, colsOf_len]) (fun h11 => ?_) (fun h11 => ?_)
  · refine AWp.seq ?_
    refine AWp.rgn [] (by simp only [go_sem, seval, sC_eq, wdR_len, wdR_pure, strR_len, strR_pure, inR_len, inR_pure, colsOf_len]; rfl) ?_ ?_
    · (first | trivial | (simp; done) | (simp at h23; simp; omega))
    refine AWp.ret (And.intro (.inr rfl) ?_)
    exact Out.plainL (by simp only [Tryz.results68]; rfl) (by simp only [resCs, resC, go_sem, seval, sC_eq, wdR_len, wdR_pure, strR_len, strR_pure, inR_len, inR_pure, colsOf_len] <;> (split <;> rfl)) (by simp only [resV, go_sem, seval, sC_eq, wdR_len, wdR_pure, strR_len, strR_pure, inR_len, inR_pure, colsOf_len] <;> (simp at h11; simp [emT, emF, h11, inR, ler])) (by simp only [go_sem, seval, sC_eq, wdR_len, wdR_pure, strR_len, strR_pure, inR_len, inR_pure, colsOf_len])
  · refine AWp.skip ?_
    refine AWp.seq ?_
    refine AWp.rgn [callI (sok s = true) (fun h => l8Line_a s (sok_0 h) hs)] (by simp only [go_sem, seval, sC_eq, wdR_len, wdR_pure, strR_len, strR_pure, inR_len, inR_pure, colsOf_len]; rfl) ?_ ?_
    · simpa using h11
    refine AWp.seq ?_
    refine AWp.rgn [callI (sok s = true) (fun h => l5Words_a s (sok_0 h) hs), callI (sok s = true) (fun h => l8Cols_a (sw' s) (by have := (sw_le (sok_0 h)).1; omega) (by have := sw_wid (sok_0 h); omega))] (by simp only [go_sem, seval, sC_eq, wdR_len, wdR_pure, strR_len, strR_pure, inR_len, inR_pure, colsOf_len]; rfl) ?_ ?_
    · simpa using h11
    refine AWp.seq ?_
    refine AWp.rgn [] (by simp only [go_sem, seval, sC_eq, wdR_len, wdR_pure, strR_len, strR_pure, inR_len, inR_pure, colsOf_len]; rfl) ?_ ?_
    · (first | trivial | (simp; done) | (simp at h23; simp; omega))
    refine AWp.seq ?_
    refine AWp.rgn [] (by simp only [go_sem, seval, sC_eq, wdR_len, wdR_pure, strR_len, strR_pure, inR_len, inR_pure, colsOf_len]; rfl) ?_ ?_
    · (first | trivial | (simp; done) | (simp at h23; simp; omega))
    refine AWp.seq ?_
    refine AWp.seq ?_
    refine AWp.rgn [] (by simp only [go_sem, seval, sC_eq, wdR_len, wdR_pure, strR_len, strR_pure, inR_len, inR_pure, colsOf_len]; rfl) ?_ ?_
    · (first | trivial | (simp; done) | (simp at h23; simp; omega))
    refine AWp.block ?_
    refine AWp.loopK (fun k : Nat => ⟨[.no, .no, .no, .no, .sl false (wdR (l8L s)), .sl false (inR (colsOf 0 (sw' s))), .ow 60 1 0 k, .ow 61 1 0 k, .i .i64 k, .no, .no, .no, .no, .no, .no, .no, .no, .no, .no, .no, .no, .no, .no, .no, .no, .no, .no, .no, .no, .no, .no, .no, .no, .no, .no, .no, .no, .no, .no, .no, .no, .no, .no, .no, .no, .no, .no, .no, .no, .no, .no, .no, .no, .no, .no, .no, .no], memOf [(60, ⟨9, 1, strR ((bw (bof s)).take k)⟩), (61, ⟨3, 1, inR ((fromS s).take k)⟩)], us [60, 61]⟩) (fun k : Nat => k ≤ (l8L s).length ∧ sok s = true) (fun k : Nat => (l8L s).length - k) (0) ?_ ?_ (fun k hI => ?_)
    · exact ⟨by simp, by simpa using h11⟩
    · refine Can.trans (Can.ownSlot 6 60 9 1 (by simp only [go_sem, seval, sC_eq, wdR_len, wdR_pure, strR_len, strR_pure, inR_len, inR_pure, colsOf_len] <;> rfl) (by simp only [go_sem, seval, sC_eq, wdR_len, wdR_pure, strR_len, strR_pure, inR_len, inR_pure, colsOf_len]) (by simp only [go_sem, seval, sC_eq, wdR_len, wdR_pure, strR_len, strR_pure, inR_len, inR_pure, colsOf_len] <;> rfl)) ?_
      refine Can.trans (Can.ownSlot 7 61 3 1 (by simp only [go_sem, seval, sC_eq, wdR_len, wdR_pure, strR_len, strR_pure, inR_len, inR_pure, colsOf_len] <;> rfl) (by simp only [go_sem, seval, sC_eq, wdR_len, wdR_pure, strR_len, strR_pure, inR_len, inR_pure, colsOf_len]) (by simp only [go_sem, seval, sC_eq, wdR_len, wdR_pure, strR_len, strR_pure, inR_len, inR_pure, colsOf_len] <;> rfl)) ?_
      exact Can.weak (Weak.lit (by simp only [go_sem, seval, sC_eq, wdR_len, wdR_pure, strR_len, strR_pure, inR_len, inR_pure, colsOf_len, subM, leV, inns, innr, V.inn, us, true_or, or_true] <;> (simp)) (by simp only [go_sem, seval, sC_eq, wdR_len, wdR_pure, strR_len, strR_pure, inR_len, inR_pure, colsOf_len, subM, leV, inns, innr, V.inn, us, true_or, or_true]) (by simp only [go_sem, seval, sC_eq, wdR_len, wdR_pure, strR_len, strR_pure, inR_len, inR_pure, colsOf_len, subM, leV, inns, innr, V.inn, us, true_or, or_true] <;> (simp [strR, inR])))
    refine AWp.seq ?_
    refine AWp.seq ?_
    refine AWp.rgn [] (by simp only [go_sem, seval, sC_eq, wdR_len, wdR_pure, strR_len, strR_pure, inR_len, inR_pure, colsOf_len]; rfl) ?_ ?_
    · (first | trivial | (simp; done) | (simp at h23; simp; omega))
    refine AWp.condB (by simp only [go_sem, seval, sC_eq, wdR_len, wdR_pure, strR_len, strR_pure, inR_len, inR_pure, colsOf_len]; rfl) (by simp only [go_sem, seval, sC_eq, wdR_len, wdR_pure, strR_len, strR_pure, inR_len, inR_pure, colsOf_len]) (fun h23 => ?_) (fun h23 => ?_)
    · refine AWp.skip ?_
      refine AWp.seqJ (fun u : Unit => ⟨[.no, .no, .no, .no, .sl false (wdR (l8L s)), .sl false (inR (colsOf 0 (sw' s))), .ow 43 1 0 (k + 1), .ow 61 1 0 (k + 1), .i .i64 k, .no, .no, .no, .no, .no, .no, .no, .no, .no, .no, .no, .no, .no, .no, .no, .no, .no, .no, .no, .no, .no, .no, .no, .no, .no, .no, .no, .no, .no, .no, .no, .no, .no, .no, .no, .no, .no, .no, .no, .no, .no, .no, .no, .no, .no, .no, .no, .no], memOf [(43, ⟨9, 1, strR ((bw (bof s)).take (k + 1))⟩), (61, ⟨3, 1, inR ((fromS s).take (k + 1))⟩)], us [43, 61]⟩) (fun u : Unit => True) ?_ (fun u hJ => ?_)
      · refine AWp.block ?_
        refine AWp.seq ?_
        refine AWp.rgn [] (by simp only [go_sem, seval, sC_eq, wdR_len, wdR_pure, strR_len, strR_pure, inR_len, inR_pure, colsOf_len, wdR_get (show k < (l8L s).length by simpa using h23)]; rfl) ?_ ?_
        · simp only [decide_eq_true_eq] at h23; have q := L hI.2; have q2 := (sok_len (sok_0 hI.2)).1; simp; omega
        refine AWp.seq ?_
        refine AWp.rgn [] (by simp only [go_sem, seval, sC_eq, wdR_len, wdR_pure, strR_len, strR_pure, inR_len, inR_pure, colsOf_len, wdR_get (show k < (l8L s).length by simpa using h23)]; rfl) ?_ ?_
        · (first | trivial | (simp; done) | (simp at h23; simp; omega))
        refine AWp.condB (by simp only [go_sem, seval, sC_eq, wdR_len, wdR_pure, strR_len, strR_pure, inR_len, inR_pure, colsOf_len]; rfl) (by simp only [go_sem, seval, sC_eq, wdR_len, wdR_pure, strR_len, strR_pure, inR_len, inR_pure, colsOf_len]) (fun h39 => ?_) (fun h39 => ?_)
        · refine AWp.rgn [] (by simp only [go_sem, seval, sC_eq, wdR_len, wdR_pure, strR_len, strR_pure, inR_len, inR_pure, colsOf_len]; rfl) ?_ ?_
          · simp only [decide_eq_true_eq] at h23; have q := L hI.2; have q2 := fromS_len s; simp; omega
          refine Exists.intro (()) ⟨?_, ?_⟩
          · trivial
          refine Can.trans (Can.swap 52 61 (by decide) (by decide) (by decide) (by decide) (by simp only [go_sem, seval, sC_eq, wdR_len, wdR_pure, strR_len, strR_pure, inR_len, inR_pure, colsOf_len, V.cl]) (by simp only [go_sem, seval, sC_eq, wdR_len, wdR_pure, strR_len, strR_pure, inR_len, inR_pure, colsOf_len, V.cl]) (by simp only [go_sem, seval, sC_eq, wdR_len, wdR_pure, strR_len, strR_pure, inR_len, inR_pure, colsOf_len, swL_get, sw, swM, rnB] <;> rfl) (by simp only [go_sem, seval, sC_eq, wdR_len, wdR_pure, strR_len, strR_pure, inR_len, inR_pure, colsOf_len, swL_get, sw, swM, rnB] <;> rfl) (by simp only [go_sem, seval, sC_eq, wdR_len, wdR_pure, strR_len, strR_pure, inR_len, inR_pure, colsOf_len, swL_get, sw, swM, rnB] <;> rfl)) ?_
          exact Can.weak (Weak.lit (by simp only [go_sem, seval, sC_eq, wdR_len, wdR_pure, strR_len, strR_pure, inR_len, inR_pure, colsOf_len, subM, leV, inns, innr, V.inn, us, true_or, or_true] <;> (simp)) (by simp only [go_sem, seval, sC_eq, wdR_len, wdR_pure, strR_len, strR_pure, inR_len, inR_pure, colsOf_len, subM, leV, inns, innr, V.inn, us, true_or, or_true]) (by simp only [go_sem, seval, sC_eq, wdR_len, wdR_pure, strR_len, strR_pure, inR_len, inR_pure, colsOf_len, subM, leV, inns, innr, V.inn, us, true_or, or_true] <;> ((simp only [decide_eq_true_eq] at h23); (have q2 := (sok_len (sok_0 hI.2)).1); rw [strR_snoc (show k < (bw (bof s)).length by omega), inR_snoc (show k < (fromS s).length by rw [fromS_len]; omega), fromS_get (show k < (l8L s).length by omega), ← hm hI.2, fst_at (show k < (l8L s).length by omega)]; (first | (simp only [decide_eq_true_eq] at h39; rw [if_pos h39]; simp; done) | (simp only [decide_eq_false_iff_not] at h39; rw [if_neg h39]; simp; done) | trace_state))))
        · refine AWp.rgn [] (by simp only [go_sem, seval, sC_eq, wdR_len, wdR_pure, strR_len, strR_pure, inR_len, inR_pure, colsOf_len, wdR_get (show k < (l8L s).length by simpa using h23), inR_get (show ((l8L s).getD k ([], 0)).2.toNat < (colsOf 0 (sw' s)).length by have := at_lt (sok_0 hI.2) _ (getD_mem (d := ([], 0)) (show k < (l8L s).length by simpa using h23)); simp only [decide_eq_false_iff_not] at h39; rw [colsOf_len]; omega)]; rfl) ?_ ?_
          · simp only [decide_eq_true_eq] at h23; simp only [decide_eq_false_iff_not] at h39; have q := L hI.2; have q2 := fromS_len s; have q3 := at_lt (sok_0 hI.2) _ (getD_mem (d := ([], 0)) (show k < (l8L s).length by omega)); simp [-List.getD_eq_getElem?_getD]; omega
          refine Exists.intro (()) ⟨?_, ?_⟩
          · trivial
          refine Can.trans (Can.swap 63 61 (by decide) (by decide) (by decide) (by decide) (by simp only [go_sem, seval, sC_eq, wdR_len, wdR_pure, strR_len, strR_pure, inR_len, inR_pure, colsOf_len, V.cl]) (by simp only [go_sem, seval, sC_eq, wdR_len, wdR_pure, strR_len, strR_pure, inR_len, inR_pure, colsOf_len, V.cl]) (by simp only [go_sem, seval, sC_eq, wdR_len, wdR_pure, strR_len, strR_pure, inR_len, inR_pure, colsOf_len, swL_get, sw, swM, rnB] <;> rfl) (by simp only [go_sem, seval, sC_eq, wdR_len, wdR_pure, strR_len, strR_pure, inR_len, inR_pure, colsOf_len, swL_get, sw, swM, rnB] <;> rfl) (by simp only [go_sem, seval, sC_eq, wdR_len, wdR_pure, strR_len, strR_pure, inR_len, inR_pure, colsOf_len, swL_get, sw, swM, rnB] <;> rfl)) ?_
          exact Can.weak (Weak.lit (by simp only [go_sem, seval, sC_eq, wdR_len, wdR_pure, strR_len, strR_pure, inR_len, inR_pure, colsOf_len, subM, leV, inns, innr, V.inn, us, true_or, or_true] <;> (simp)) (by simp only [go_sem, seval, sC_eq, wdR_len, wdR_pure, strR_len, strR_pure, inR_len, inR_pure, colsOf_len, subM, leV, inns, innr, V.inn, us, true_or, or_true]) (by simp only [go_sem, seval, sC_eq, wdR_len, wdR_pure, strR_len, strR_pure, inR_len, inR_pure, colsOf_len, subM, leV, inns, innr, V.inn, us, true_or, or_true] <;> ((simp only [decide_eq_true_eq] at h23); (have q2 := (sok_len (sok_0 hI.2)).1); rw [strR_snoc (show k < (bw (bof s)).length by omega), inR_snoc (show k < (fromS s).length by rw [fromS_len]; omega), fromS_get (show k < (l8L s).length by omega), ← hm hI.2, fst_at (show k < (l8L s).length by omega)]; (first | (simp only [decide_eq_true_eq] at h39; rw [if_pos h39]; simp; done) | (simp only [decide_eq_false_iff_not] at h39; rw [if_neg h39]; simp; done) | trace_state))))
      refine AWp.rgn [] (by simp only [go_sem, seval, sC_eq, wdR_len, wdR_pure, strR_len, strR_pure, inR_len, inR_pure, colsOf_len]; rfl) ?_ ?_
      · (first | trivial | (simp; done) | (simp at h23; simp; omega))
      refine Exists.intro (k + 1) ⟨?_, ?_, ?_⟩
      · simp at h23; exact ⟨by omega, hI.2⟩
      · simp at h23; omega
      refine Can.trans (Can.swap 43 60 (by decide) (by decide) (by decide) (by decide) (by simp only [go_sem, seval, sC_eq, wdR_len, wdR_pure, strR_len, strR_pure, inR_len, inR_pure, colsOf_len, V.cl]) (by simp only [go_sem, seval, sC_eq, wdR_len, wdR_pure, strR_len, strR_pure, inR_len, inR_pure, colsOf_len, V.cl]) (by simp only [go_sem, seval, sC_eq, wdR_len, wdR_pure, strR_len, strR_pure, inR_len, inR_pure, colsOf_len, swL_get, sw, swM, rnB] <;> rfl) (by simp only [go_sem, seval, sC_eq, wdR_len, wdR_pure, strR_len, strR_pure, inR_len, inR_pure, colsOf_len, swL_get, sw, swM, rnB] <;> rfl) (by simp only [go_sem, seval, sC_eq, wdR_len, wdR_pure, strR_len, strR_pure, inR_len, inR_pure, colsOf_len, swL_get, sw, swM, rnB] <;> rfl)) ?_
      exact Can.weak (Weak.lit (by simp only [go_sem, seval, sC_eq, wdR_len, wdR_pure, strR_len, strR_pure, inR_len, inR_pure, colsOf_len, subM, leV, inns, innr, V.inn, us, true_or, or_true] <;> ((have q := L hI.2); rw [wrap64 (by simp at h23; omega) (by simp at h23; omega)]; simp)) (by simp only [go_sem, seval, sC_eq, wdR_len, wdR_pure, strR_len, strR_pure, inR_len, inR_pure, colsOf_len, subM, leV, inns, innr, V.inn, us, true_or, or_true]) (by simp only [go_sem, seval, sC_eq, wdR_len, wdR_pure, strR_len, strR_pure, inR_len, inR_pure, colsOf_len, subM, leV, inns, innr, V.inn, us, true_or, or_true]))
    · refine AWp.exit ?_
      refine AWp.seq ?_
      refine AWp.rgn [callBI (sok s = true) (fun h => sTokText_a (bw (bof s)) (by have := (bw_le (bok0_bof (sok_0 h))).1; omega) (by have := bw_text (bok0_bof (sok_0 h)); omega))] (by simp only [go_sem, seval, sC_eq, wdR_len, wdR_pure, strR_len, strR_pure, inR_len, inR_pure, colsOf_len]; rfl) ?_ ?_
      · simp only [decide_eq_false_iff_not] at h23; have q2 := (sok_len (sok_0 hI.2)).1; obtain rfl : k = (bw (bof s)).length := (by omega); refine ⟨?_, hI.2⟩; rw [List.take_of_length_le (Nat.le_refl _), if_pos (Nat.le_refl _), List.take_of_length_le (by rw [strR_len]; exact Nat.le_refl _)]; exact leV_refl _
      refine AWp.frz 61 (by simp only [go_sem, seval, sC_eq, wdR_len, wdR_pure, strR_len, strR_pure, inR_len, inR_pure, colsOf_len]; rfl) (by simp only [go_sem, seval, sC_eq, wdR_len, wdR_pure, strR_len, strR_pure, inR_len, inR_pure, colsOf_len]) (by simp only [go_sem, seval, sC_eq, wdR_len, wdR_pure, strR_len, strR_pure, inR_len, inR_pure, colsOf_len]; rfl) (by simp only [go_sem, seval, sC_eq, wdR_len, wdR_pure, strR_len, strR_pure, inR_len, inR_pure, colsOf_len]; rfl) ?_
      refine AWp.ret (And.intro (.inr rfl) ?_)
      exact Out.plainL (by simp only [Tryz.results68]; rfl) (by simp only [resCs, resC, go_sem, seval, sC_eq, wdR_len, wdR_pure, strR_len, strR_pure, inR_len, inR_pure, colsOf_len] <;> (split <;> rfl)) (by simp only [resV, go_sem, seval, sC_eq, wdR_len, wdR_pure, strR_len, strR_pure, inR_len, inR_pure, colsOf_len] <;> (simp at h11; simp only [decide_eq_false_iff_not] at h23; have q2 := (sok_len (sok_0 hI.2)).1; have q3 := fromS_len s; obtain rfl : k = (fromS s).length := (by omega); rw [List.take_of_length_le (Nat.le_refl _), if_pos (Nat.le_refl _), List.take_of_length_le (by rw [inR_len]; exact Nat.le_refl _), from_eq (sok_0 hI.2)]; simp [emT, emF, h11, peel, ler_refl, leV_refl])) (by simp only [go_sem, seval, sC_eq, wdR_len, wdR_pure, strR_len, strR_pure, inR_len, inR_pure, colsOf_len])
theorem map_ty : En.P.underlying 134 = some (.map 3 3) := Tryz.underlying134
theorem int_ty : En.P.underlying 3 = some (.int .i64) := Tryz.underlying3
theorem ssrc_len {s : Sl} (h : sok0 s = true) : (ssrc s).length ≤ 76 ∧ widW (ssrc s) ≤ 1000 := by
  have h1 := (sw_le h).1
  have h2 := sw_wid h
  rw [← ssrc_sw h] at h1 h2
  exact ⟨by simpa using h1, by unfold widW; omega⟩
theorem bsrc_len {b : Bl} (h : bok0 b = true) : (bsrc b).length ≤ 76 := by
  have h1 := (bw_le h).1
  rw [← bsrc_bw h] at h1
  simpa using h1
theorem fromI_len (s : Sl) : (fromI s).length = (bsrc (bof s)).length := by simp [fromI]
theorem fromI_get {s : Sl} {k : Nat} (h : k < (bsrc (bof s)).length) : (fromI s).getD k 0 = if ((bsrc (bof s)).getD k ([], 0)).2 < 0 then -1 else colOf 0 (ssrc s) ((bsrc (bof s)).getD k ([], 0)).2 := by
  simp [fromI, List.getD_eq_getElem?_getD, List.getElem?_eq_getElem h]
theorem fil_put {l : List Int} {k : Nat} (h : k < l.length) (z : List V) {r : List V} (hr : r = [.i .i64 (l.getD k 0)]) : (filR (inR l) z k).set k r = filR (inR l) z (k + 1) := by
  rw [hr, ← inR_get h]; exact filR_set (by rw [inR_len]; exact h)
theorem map_get {s : Sl} (h : sok0 s = true) {k : Nat} (hk : k < (bsrc (bof s)).length) (h0 : 0 ≤ ((bsrc (bof s)).getD k ([], 0)).2) : mget (mapK (ssrc s) (ssrc s).length) ((bsrc (bof s)).getD k ([], 0)).2 = some (colOf 0 (ssrc s) ((bsrc (bof s)).getD k ([], 0)).2) :=
  mapK_get (ids_line h) (ids_has h (getD_mem hk) h0)
theorem emit_a (s : Sl) (h : sok0 s = true) (hs : sms' s = true) : ACall En 66 [.ag (sC s)] [] [.s (tokText (bw (bof s))), .ow 0 1 0 (fromI s).length] [⟨3, 1, inR (fromI s)⟩] := by
  obtain ⟨l1, l2⟩ := ssrc_len h
  have hb := bok0_bof h
  have hsb := smb_bof hs
  have l3 := bsrc_len hb
  have W := sWords_a s h hs
  have Cl := columns_a (ssrc s) (by omega) (by omega)
  have Bo := bareOf_a s hs (sok0_wf h).1 (sok0_wf h).2
  have Bw := bWords_a (bof s) hb hsb
  have Bt := bText_a (bof s) hb hsb
  have hfl := fromI_len s
  have hll : (inR (fromI s)).length = (bsrc (bof s)).length := by rw [inR_len, hfl]
  have hp : ∀ k, purer (filR (inR (fromI s)) [.i .i64 0] k) = true := fun k => filR_pure (inR_pure _) rfl
  have hd1 : ∀ k j, ((filR (inR (fromI s)) [.i .i64 0] k).getD j []).drop 1 = [] := filR_one _ _ (fun r hr => inR_one hr) rfl
  have hcl : (colsOf 0 ((ssrc s).map (·.1))).length = (ssrc s).length := by rw [colsOf_len, List.length_map]
  refine acall_of_body (fn := Tryz.f66) [46] Tryz.func66 rfl rfl (by simp) fun C => ?_
  rw [entry_eq]
  simp only [Tryz.ntmps66, List.length_cons, List.length_nil, Nat.reduceAdd, Nat.reduceSub, List.replicate_succ, List.replicate_zero, List.cons_append, List.nil_append, numL]
  refine AWp.seq ?_
  refine AWp.rgn [] (by simp only [go_sem, seval, sC_eq, bC_eq, wdR_len, wdR_pure, inR_len, inR_pure, hcl, hll, hp, hd1, filR_len, clrs]; rfl) ?_ ?_
  · (first | trivial | (simp; done))
  refine AWp.seq ?_
  refine AWp.rgnS [12] [newMO En 70] (by simp only [go_sem, seval, sC_eq, bC_eq, wdR_len, wdR_pure, inR_len, inR_pure, hcl, hll, hp, hd1, filR_len, clrs]; rfl) ?_ ?_
  · (first | trivial | (simp; done))
  refine AWp.seq ?_
  refine AWp.rgn [call0 W] (by simp only [go_sem, seval, sC_eq, bC_eq, wdR_len, wdR_pure, inR_len, inR_pure, hcl, hll, hp, hd1, filR_len, clrs]; rfl) ?_ ?_
  · (first | trivial | (simp; done))
  refine AWp.seq ?_
  refine AWp.seq ?_
  refine AWp.rgn [call0 Cl] (by simp only [go_sem, seval, sC_eq, bC_eq, wdR_len, wdR_pure, inR_len, inR_pure, hcl, hll, hp, hd1, filR_len, clrs]; rfl) ?_ ?_
  · (first | trivial | (simp; done))
  refine AWp.block ?_
  refine AWp.loopK (fun k : Nat => ⟨[.no, .pt 11 11 0 0, .no, .no, .pt 70 0 0 0, .sl false (wdR (ssrc s)), .no, .no, .no, .no, .no, .no, .no, .no, .no, .no, .sl false (inR (colsOf 0 ((ssrc s).map (·.1)))), .i .i64 (ssrc s).length, .i .i64 k, .no, .no, .no, .no, .no, .no, .no, .no, .no, .no, .no, .no, .no, .no, .no, .no, .no, .no, .no, .no, .no, .no, .no, .no, .no, .no, .no, .no, .no, .no, .no, .no, .no, .no, .no, .no, .no, .no, .no, .no, .no, .no, .no], memOf [(11, ⟨32, 11, [sC s]⟩), (70, ⟨0, 0, mR (mapK (ssrc s) k)⟩)], us [11, 70]⟩) (fun k : Nat => k ≤ (ssrc s).length) (fun k : Nat => (ssrc s).length - k) (0) ?_ ?_ (fun k hI => ?_)
  · simp
  · exact Can.weak (Weak.lit (by simp only [go_sem, seval, sC_eq, bC_eq, wdR_len, wdR_pure, inR_len, inR_pure, hcl, hll, hp, hd1, filR_len, clrs, subM, leV, inns, innr, V.inn, us, true_or, or_true] <;> (simp)) (by simp only [go_sem, seval, sC_eq, bC_eq, wdR_len, wdR_pure, inR_len, inR_pure, hcl, hll, hp, hd1, filR_len, clrs, subM, leV, inns, innr, V.inn, us, true_or, or_true]) (by simp only [go_sem, seval, sC_eq, bC_eq, wdR_len, wdR_pure, inR_len, inR_pure, hcl, hll, hp, hd1, filR_len, clrs, subM, leV, inns, innr, V.inn, us, true_or, or_true] <;> (simp [mapK_zero, mR, sC_eq])))
  refine AWp.seq ?_
  refine AWp.rgn [] (by simp only [go_sem, seval, sC_eq, bC_eq, wdR_len, wdR_pure, inR_len, inR_pure, hcl, hll, hp, hd1, filR_len, clrs]; rfl) ?_ ?_
  · (first | trivial | (simp; done))
  refine AWp.seq ?_
  refine AWp.condB (by simp only [go_sem, seval, sC_eq, bC_eq, wdR_len, wdR_pure, inR_len, inR_pure, hcl, hll, hp, hd1, filR_len, clrs]; rfl) (by simp only [go_sem, seval, sC_eq, bC_eq, wdR_len, wdR_pure, inR_len, inR_pure, hcl, hll, hp, hd1, filR_len, clrs]) (fun h19 => ?_) (fun h19 => ?_)
  · refine AWp.skip ?_
    refine AWp.seq ?_
    refine AWp.block ?_
    refine AWp.seq ?_
    refine AWp.rgn [] (by simp only [go_sem, seval, sC_eq, bC_eq, wdR_len, wdR_pure, inR_len, inR_pure, hcl, hll, hp, hd1, filR_len, clrs, inR_get (show k < (colsOf 0 ((ssrc s).map (·.1))).length by rw [hcl]; simpa using h19)]; rfl) ?_ ?_
    · simp only [decide_eq_true_eq] at h19; omega
    refine AWp.rgnS [0] [setMO En 70 (mapK (ssrc s) k) 134 3 3 ((ssrc s).getD k ([], 0)).2 ((colsOf 0 ((ssrc s).map (·.1))).getD k 0) map_ty int_ty] (by simp only [go_sem, seval, sC_eq, bC_eq, wdR_len, wdR_pure, inR_len, inR_pure, hcl, hll, hp, hd1, filR_len, clrs, wdR_get (show k < (ssrc s).length by simpa using h19)]; rfl) ?_ ?_
    · simp only [decide_eq_true_eq] at h19; omega
    refine AWp.rgn [] (by simp only [go_sem, seval, sC_eq, bC_eq, wdR_len, wdR_pure, inR_len, inR_pure, hcl, hll, hp, hd1, filR_len, clrs]; rfl) ?_ ?_
    · (first | trivial | (simp; done))
    refine Exists.intro (k + 1) ⟨?_, ?_, ?_⟩
    · simp at h19; omega
    · simp at h19; omega
    exact Can.weak (Weak.lit (by simp only [go_sem, seval, sC_eq, bC_eq, wdR_len, wdR_pure, inR_len, inR_pure, hcl, hll, hp, hd1, filR_len, clrs, subM, leV, inns, innr, V.inn, us, true_or, or_true] <;> (rw [wrap64 (by simp at h19; omega) (by simp at h19; omega)]; simp)) (by simp only [go_sem, seval, sC_eq, bC_eq, wdR_len, wdR_pure, inR_len, inR_pure, hcl, hll, hp, hd1, filR_len, clrs, subM, leV, inns, innr, V.inn, us, true_or, or_true]) (by simp only [go_sem, seval, sC_eq, bC_eq, wdR_len, wdR_pure, inR_len, inR_pure, hcl, hll, hp, hd1, filR_len, clrs, subM, leV, inns, innr, V.inn, us, true_or, or_true] <;> (rw [mapK_succ (show k < (ssrc s).length by simpa using h19)])))
  · refine AWp.exit ?_
    refine AWp.seq ?_
    refine AWp.rgn [call0 Bo, call0 Bw] (by simp only [go_sem, seval, sC_eq, bC_eq, wdR_len, wdR_pure, inR_len, inR_pure, hcl, hll, hp, hd1, filR_len, clrs]; rfl) ?_ ?_
    · (first | trivial | (simp; done))
    refine AWp.seq ?_
    refine AWp.rgn [] (by simp only [go_sem, seval, sC_eq, bC_eq, wdR_len, wdR_pure, inR_len, inR_pure, hcl, hll, hp, hd1, filR_len, clrs]; rfl) ?_ ?_
    · omega
    refine AWp.seq ?_
    refine AWp.seq ?_
    refine AWp.rgn [] (by simp only [go_sem, seval, sC_eq, bC_eq, wdR_len, wdR_pure, inR_len, inR_pure, hcl, hll, hp, hd1, filR_len, clrs]; rfl) ?_ ?_
    · (first | trivial | (simp; done))
    refine AWp.block ?_
    refine AWp.loopK (fun k : Nat => ⟨[.no, .pt 11 11 0 0, .no, .no, .pt 70 0 0 0, .no, .no, .no, .no, .ow 46 1 0 (bsrc (bof s)).length, .no, .no, .no, .no, .no, .no, .no, .no, .no, .no, .no, .no, .no, .no, .no, .no, .no, .no, .no, .no, .no, .no, .no, .no, .no, .no, .no, .sl false (wdR (bsrc (bof s))), .i .i64 (bsrc (bof s)).length, .i .i64 k, .no, .no, .no, .no, .no, .no, .no, .no, .no, .no, .no, .no, .no, .no, .no, .no, .no, .no, .no, .no, .no, .no], memOf [(11, ⟨32, 11, [sC s]⟩), (70, ⟨0, 0, mR (mapK (ssrc s) (ssrc s).length)⟩), (46, ⟨3, 1, filR (inR (fromI s)) [.i .i64 0] k⟩)], us [11, 46, 70]⟩) (fun k : Nat => k ≤ (bsrc (bof s)).length) (fun k : Nat => (bsrc (bof s)).length - k) (0) ?_ ?_ (fun k hI => ?_)
    · simp
    · exact Can.weak (Weak.lit (by simp only [go_sem, seval, sC_eq, bC_eq, wdR_len, wdR_pure, inR_len, inR_pure, hcl, hll, hp, hd1, filR_len, clrs, subM, leV, inns, innr, V.inn, us, true_or, or_true] <;> (simp)) (by simp only [go_sem, seval, sC_eq, bC_eq, wdR_len, wdR_pure, inR_len, inR_pure, hcl, hll, hp, hd1, filR_len, clrs, subM, leV, inns, innr, V.inn, us, true_or, or_true]) (by simp only [go_sem, seval, sC_eq, bC_eq, wdR_len, wdR_pure, inR_len, inR_pure, hcl, hll, hp, hd1, filR_len, clrs, subM, leV, inns, innr, V.inn, us, true_or, or_true] <;> ((simp only [decide_eq_false_iff_not] at h19); (obtain rfl : k = (ssrc s).length := (by omega)); simp [filR_zero, hll])))
    refine AWp.seq ?_
    refine AWp.rgn [] (by simp only [go_sem, seval, sC_eq, bC_eq, wdR_len, wdR_pure, inR_len, inR_pure, hcl, hll, hp, hd1, filR_len, clrs]; rfl) ?_ ?_
    · (first | trivial | (simp; done))
    refine AWp.seq ?_
    refine AWp.condB (by simp only [go_sem, seval, sC_eq, bC_eq, wdR_len, wdR_pure, inR_len, inR_pure, hcl, hll, hp, hd1, filR_len, clrs]; rfl) (by simp only [go_sem, seval, sC_eq, bC_eq, wdR_len, wdR_pure, inR_len, inR_pure, hcl, hll, hp, hd1, filR_len, clrs]) (fun h40 => ?_) (fun h40 => ?_)
    · refine AWp.skip ?_
      refine AWp.seqJ (fun u : Unit => ⟨[.no, .pt 11 11 0 0, .no, .no, .pt 70 0 0 0, .no, .no, .no, .no, .ow 46 1 0 (bsrc (bof s)).length, .no, .no, .no, .no, .no, .no, .no, .no, .no, .no, .no, .no, .no, .no, .no, .no, .no, .no, .no, .no, .no, .no, .no, .no, .no, .no, .no, .sl false (wdR (bsrc (bof s))), .i .i64 (bsrc (bof s)).length, .i .i64 k, .no, .no, .no, .no, .no, .no, .no, .no, .no, .no, .no, .no, .no, .no, .no, .no, .no, .no, .no, .no, .no, .no], memOf [(11, ⟨32, 11, [sC s]⟩), (70, ⟨0, 0, mR (mapK (ssrc s) (ssrc s).length)⟩), (46, ⟨3, 1, filR (inR (fromI s)) [.i .i64 0] (k + 1)⟩)], us [11, 46, 70]⟩) (fun u : Unit => True) ?_ (fun u hJ => ?_)
      · refine AWp.block ?_
        refine AWp.seq ?_
        refine AWp.rgn [] (by simp only [go_sem, seval, sC_eq, bC_eq, wdR_len, wdR_pure, inR_len, inR_pure, hcl, hll, hp, hd1, filR_len, clrs, wdR_get (show k < (bsrc (bof s)).length by simpa using h40)]; rfl) ?_ ?_
        · simp only [decide_eq_true_eq] at h40; omega
        refine AWp.seq ?_
        refine AWp.rgn [] (by simp only [go_sem, seval, sC_eq, bC_eq, wdR_len, wdR_pure, inR_len, inR_pure, hcl, hll, hp, hd1, filR_len, clrs]; rfl) ?_ ?_
        · simp only [decide_eq_true_eq] at h40; omega
        refine AWp.seq ?_
        refine AWp.rgn [] (by simp only [go_sem, seval, sC_eq, bC_eq, wdR_len, wdR_pure, inR_len, inR_pure, hcl, hll, hp, hd1, filR_len, clrs]; rfl) ?_ ?_
        · (first | trivial | (simp; done))
        refine AWp.condB (by simp only [go_sem, seval, sC_eq, bC_eq, wdR_len, wdR_pure, inR_len, inR_pure, hcl, hll, hp, hd1, filR_len, clrs]; rfl) (by simp only [go_sem, seval, sC_eq, bC_eq, wdR_len, wdR_pure, inR_len, inR_pure, hcl, hll, hp, hd1, filR_len, clrs]) (fun h49 => ?_) (fun h49 => ?_)
        · refine AWp.rgnS [55] [getMO En 70 (mapK (ssrc s) (ssrc s).length) 134 3 3 ((bsrc (bof s)).getD k ([], 0)).2 (colOf 0 (ssrc s) ((bsrc (bof s)).getD k ([], 0)).2) map_ty int_ty] (by simp only [go_sem, seval, sC_eq, bC_eq, wdR_len, wdR_pure, inR_len, inR_pure, hcl, hll, hp, hd1, filR_len, clrs]; rfl) ?_ ?_
          · simp only [decide_eq_true_eq] at h40 h49; refine ⟨⟨map_get h (by omega) (by omega), by omega⟩, ?_⟩; rw [List.length_set, filR_len, hll]; omega
          refine Exists.intro (()) ⟨?_, ?_⟩
          · trivial
          exact Can.weak (Weak.lit (by simp only [go_sem, seval, sC_eq, bC_eq, wdR_len, wdR_pure, inR_len, inR_pure, hcl, hll, hp, hd1, filR_len, clrs, subM, leV, inns, innr, V.inn, us, true_or, or_true]) (by simp only [go_sem, seval, sC_eq, bC_eq, wdR_len, wdR_pure, inR_len, inR_pure, hcl, hll, hp, hd1, filR_len, clrs, subM, leV, inns, innr, V.inn, us, true_or, or_true]) (by simp only [go_sem, seval, sC_eq, bC_eq, wdR_len, wdR_pure, inR_len, inR_pure, hcl, hll, hp, hd1, filR_len, clrs, subM, leV, inns, innr, V.inn, us, true_or, or_true] <;> ((simp only [decide_eq_true_eq] at h40); (have q := fromI_get (show k < (bsrc (bof s)).length by omega)); (have q2 : k < (fromI s).length := (by omega)); (first | (simp only [decide_eq_true_eq] at h49; rw [if_neg (by omega)] at q; rw [List.set_set, ← q, fil_put q2 [.i .i64 0]]; congr 1; (have q3 : k < (filR (inR (fromI s)) [.i .i64 0] k).length := (by rw [filR_len, hll]; omega)); simp [List.getD_eq_getElem?_getD, q3]; done) | (simp only [decide_eq_false_iff_not] at h49; rw [if_pos (by omega)] at q; rw [fil_put q2 [.i .i64 0] (by rw [q])]; done) | trace_state))))
        · refine AWp.skip ?_
          refine Exists.intro (()) ⟨?_, ?_⟩
          · trivial
          exact Can.weak (Weak.lit (by simp only [go_sem, seval, sC_eq, bC_eq, wdR_len, wdR_pure, inR_len, inR_pure, hcl, hll, hp, hd1, filR_len, clrs, subM, leV, inns, innr, V.inn, us, true_or, or_true]) (by simp only [go_sem, seval, sC_eq, bC_eq, wdR_len, wdR_pure, inR_len, inR_pure, hcl, hll, hp, hd1, filR_len, clrs, subM, leV, inns, innr, V.inn, us, true_or, or_true]) (by simp only [go_sem, seval, sC_eq, bC_eq, wdR_len, wdR_pure, inR_len, inR_pure, hcl, hll, hp, hd1, filR_len, clrs, subM, leV, inns, innr, V.inn, us, true_or, or_true] <;> ((simp only [decide_eq_true_eq] at h40); (have q := fromI_get (show k < (bsrc (bof s)).length by omega)); (have q2 : k < (fromI s).length := (by omega)); (first | (simp only [decide_eq_true_eq] at h49; rw [if_neg (by omega)] at q; rw [List.set_set, ← q, fil_put q2 [.i .i64 0]]; congr 1; (have q3 : k < (filR (inR (fromI s)) [.i .i64 0] k).length := (by rw [filR_len, hll]; omega)); simp [List.getD_eq_getElem?_getD, q3]; done) | (simp only [decide_eq_false_iff_not] at h49; rw [if_pos (by omega)] at q; rw [fil_put q2 [.i .i64 0] (by rw [q])]; done) | trace_state))))
      refine AWp.rgn [] (by simp only [go_sem, seval, sC_eq, bC_eq, wdR_len, wdR_pure, inR_len, inR_pure, hcl, hll, hp, hd1, filR_len, clrs]; rfl) ?_ ?_
      · (first | trivial | (simp; done))
      refine Exists.intro (k + 1) ⟨?_, ?_, ?_⟩
      · simp at h40; omega
      · simp at h40; omega
      exact Can.weak (Weak.lit (by simp only [go_sem, seval, sC_eq, bC_eq, wdR_len, wdR_pure, inR_len, inR_pure, hcl, hll, hp, hd1, filR_len, clrs, subM, leV, inns, innr, V.inn, us, true_or, or_true] <;> (rw [wrap64 (by simp at h40; omega) (by simp at h40; omega)]; simp)) (by simp only [go_sem, seval, sC_eq, bC_eq, wdR_len, wdR_pure, inR_len, inR_pure, hcl, hll, hp, hd1, filR_len, clrs, subM, leV, inns, innr, V.inn, us, true_or, or_true]) (by simp only [go_sem, seval, sC_eq, bC_eq, wdR_len, wdR_pure, inR_len, inR_pure, hcl, hll, hp, hd1, filR_len, clrs, subM, leV, inns, innr, V.inn, us, true_or, or_true]))
    · refine AWp.exit ?_
      refine AWp.seq ?_
      refine AWp.rgn [call0 Bo, call0 Bt] (by simp only [go_sem, seval, sC_eq, bC_eq, wdR_len, wdR_pure, inR_len, inR_pure, hcl, hll, hp, hd1, filR_len, clrs]; rfl) ?_ ?_
      · (first | trivial | (simp; done))
      refine AWp.ret (And.intro (.inr rfl) ?_)
      exact Out.mem' (by simp only [Tryz.results66]; rfl) (by simp only [resCs, resC, go_sem, seval, sC_eq, bC_eq, wdR_len, wdR_pure, inR_len, inR_pure, hcl, hll, hp, hd1, filR_len, clrs]) (by simp only [resV, rns, rn, go_sem, seval, sC_eq, bC_eq, wdR_len, wdR_pure, inR_len, inR_pure, hcl, hll, hp, hd1, filR_len, clrs] <;> (rw [hfl])) (by simp) rfl (by decide) (by simp only [go_sem, seval, sC_eq, bC_eq, wdR_len, wdR_pure, inR_len, inR_pure, hcl, hll, hp, hd1, filR_len, clrs]) (by simp only [clrs, go_sem, seval, sC_eq, bC_eq, wdR_len, wdR_pure, inR_len, inR_pure, hcl, hll, hp, hd1, filR_len, clrs]) (by simp only [memEq, go_sem, seval, sC_eq, bC_eq, wdR_len, wdR_pure, inR_len, inR_pure, hcl, hll, hp, hd1, filR_len, clrs] <;> (simp only [decide_eq_false_iff_not] at h40; rw [filR_end (by rw [hll]; omega)]))
end

section
set_option maxRecDepth 100000
set_option maxHeartbeats 4000000

def colLe (X Y : Wd) : Prop := widW X ≤ widW Y ∧ ∀ i, 0 ≤ i → ((i ∈ X.map (·.2) ↔ i ∈ Y.map (·.2)) ∧ (i ∈ X.map (·.2) → colOf 0 X i ≤ colOf 0 Y i))
theorem colLe.refl (X : Wd) : colLe X X := ⟨Int.le_refl _, fun _ _ => ⟨Iff.rfl, fun _ => Int.le_refl _⟩⟩
theorem colLe.app {X X' Y Y' : Wd} (h : colLe X X') (k : colLe Y Y') : colLe (X ++ Y) (X' ++ Y') := by
  refine ⟨by rw [widW_app, widW_app]; have := h.1; have := k.1; omega, fun i hi => ?_⟩
  obtain ⟨h1, h2⟩ := h.2 i hi
  obtain ⟨k1, k2⟩ := k.2 i hi
  refine ⟨by simp only [List.map_append, List.mem_append, h1, k1], fun hm => ?_⟩
  rw [colOf_app, colOf_app]
  by_cases hx : i ∈ X.map (·.2)
  · rw [if_pos hx, if_pos (h1.1 hx)]; exact h2 hx
  · rw [if_neg hx, if_neg (fun q => hx (h1.2 q))]
    have hy : i ∈ Y.map (·.2) := by
      rw [List.map_append] at hm
      exact (List.mem_append.1 hm).resolve_left hx
    rw [colOf_add i (widW X) Y 0 hy, colOf_add i (widW X') Y' 0 (k1.1 hy)]
    have := k2 hy
    have := h.1
    omega
theorem colLe.none {Q : Wd} (h : ∀ p ∈ Q, p.2 = -1) : colLe [] Q := by
  refine ⟨by rw [widW_nil]; exact widW_pos Q, fun i hi => ⟨⟨fun q => by simp at q, fun q => ?_⟩, fun q => by simp at q⟩⟩
  obtain ⟨p, hp, e⟩ := List.mem_map.1 q
  have := h p hp
  omega
end
end Go.Proofs.YteihfmnmpdbkiaaGreatDoor
