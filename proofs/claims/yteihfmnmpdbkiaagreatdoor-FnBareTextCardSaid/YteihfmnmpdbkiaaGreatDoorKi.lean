/- Parts of the proof, one after another: Lines without types: words, text, ok: the program's. | Lines without types: text, ok: the program's. | The reference's words and texts. | The reference's words and texts, 2. | Lines without types: words, text, ok: the reference's. Conditions: none. -/
import Derived.Test.YteihfmnmpdbkiaaGreatDoorKh
set_option linter.unusedVariables false
set_option linter.unusedSimpArgs false
namespace Go.Proofs.YteihfmnmpdbkiaaGreatDoor
section
set_option maxRecDepth 100000
set_option maxHeartbeats 4000000

theorem fst_get {l : Wd} {k : Nat} (h : k < l.length) : (strR (l.map (·.1))).getD k [] = [.s (l.getD k ([], 0)).1] := by
  simp [strR, List.getD_eq_getElem?_getD, List.getElem?_eq_getElem h]
theorem strR_one {r : List V} {l : List Str} (h : r ∈ strR l) : r.length = 1 := by
  obtain ⟨s, _, rfl⟩ := List.mem_map.1 h; rfl
theorem filR_str_drop (l : List Str) (k j : Nat) : ((filR (strR l) [.s []] k).getD j []).drop 1 = [] := by
  rw [List.getD_eq_getElem?_getD]
  cases h : (filR (strR l) [.s []] k)[j]? with
  | none => rfl
  | some r =>
    have hm := List.mem_of_getElem? h
    have : r.length = 1 := by
      rcases filR_mem hm with hm | rfl
      · exact strR_one hm
      · rfl
    simp only [Option.getD_some]; exact List.drop_of_length_le (by omega)
theorem bareWords_a (l : Wd) (hl : l.length ≤ 1000000) : ACall En 162 [.sl false (wdR l)] [] [.sl false (strR (l.map (·.1)))] [] := by
  have hp : ∀ k, purer (filR (strR (l.map (·.1))) [.s []] k) = true := fun k => filR_pure (strR_pure _) rfl
  have hll : (strR (l.map (·.1))).length = l.length := by simp [strR]
  refine acall_of_body (fn := Tryz.f162) [] Tryz.func162 rfl rfl (by simp) fun C => ?_
  rw [entry_eq]
  simp only [Tryz.ntmps162, List.length_cons, List.length_nil, Nat.reduceAdd, Nat.reduceSub, List.replicate_succ, List.replicate_zero, List.cons_append, List.nil_append, numL]
  refine AWp.seq ?_
  refine AWp.rgn [] (by simp only [go_sem, seval, wdR_len, wdR_pure, hp, filR_str_drop, filR_len, hll]; rfl) ?_ ?_
  · (first | trivial | (simp; done) | (simp at h12; simp; omega))
  refine AWp.seq ?_
  refine AWp.rgn [] (by simp only [go_sem, seval, wdR_len, wdR_pure, hp, filR_str_drop, filR_len, hll]; rfl) ?_ ?_
  · simp; omega
  refine AWp.seq ?_
  refine AWp.seq ?_
  refine AWp.rgn [] (by simp only [go_sem, seval, wdR_len, wdR_pure, hp, filR_str_drop, filR_len, hll]; rfl) ?_ ?_
  · (first | trivial | (simp; done) | (simp at h12; simp; omega))
  refine AWp.block ?_
  refine AWp.loopK (fun k : Nat => ⟨[.no, .no, .no, .ow 18 1 0 l.length, .no, .no, .no, .no, .no, .sl false (wdR l), .i .i64 l.length, .i .i64 k, .no, .no, .no, .no, .no, .no, .no, .no, .no, .no, .no], memOf [(18, ⟨9, 1, filR (strR (l.map (·.1))) [.s []] k⟩)], us [18]⟩) (fun k : Nat => k ≤ l.length) (fun k : Nat => l.length - k) (0) ?_ ?_ (fun k hI => ?_)
  · simp
  · exact Can.weak (Weak.lit (by simp only [go_sem, seval, wdR_len, wdR_pure, hp, filR_str_drop, filR_len, hll, subM, leV, inns, innr, V.inn, us, true_or, or_true] <;> (simp)) (by simp only [go_sem, seval, wdR_len, wdR_pure, hp, filR_str_drop, filR_len, hll, subM, leV, inns, innr, V.inn, us, true_or, or_true]) (by simp only [go_sem, seval, wdR_len, wdR_pure, hp, filR_str_drop, filR_len, hll, subM, leV, inns, innr, V.inn, us, true_or, or_true] <;> (simp [filR_zero, hll])))
  refine AWp.seq ?_
  refine AWp.rgn [] (by simp only [go_sem, seval, wdR_len, wdR_pure, hp, filR_str_drop, filR_len, hll]; rfl) ?_ ?_
  · (first | trivial | (simp; done) | (simp at h12; simp; omega))
  refine AWp.seq ?_
  refine AWp.condB (by simp only [go_sem, seval, wdR_len, wdR_pure, hp, filR_str_drop, filR_len, hll]; rfl) (by simp only [go_sem, seval, wdR_len, wdR_pure, hp, filR_str_drop, filR_len, hll]) (fun h12 => ?_) (fun h12 => ?_)
  · refine AWp.skip ?_
    refine AWp.seq ?_
    refine AWp.block ?_
    refine AWp.seq ?_
    refine AWp.rgn [] (by simp only [go_sem, seval, wdR_len, wdR_pure, hp, filR_str_drop, filR_len, hll, wdR_get (show k < l.length by simpa using h12)]; rfl) ?_ ?_
    · (first | trivial | (simp; done) | (simp at h12; simp; omega))
    refine AWp.rgn [] (by simp only [go_sem, seval, wdR_len, wdR_pure, hp, filR_str_drop, filR_len, hll, filR_set (l := strR (l.map (·.1))) (show k < (strR (l.map (·.1))).length by rw [hll]; simpa using h12)]; rfl) ?_ ?_
    · (first | trivial | (simp; done) | (simp at h12; simp; omega))
    refine AWp.rgn [] (by simp only [go_sem, seval, wdR_len, wdR_pure, hp, filR_str_drop, filR_len, hll]; rfl) ?_ ?_
    · (first | trivial | (simp; done) | (simp at h12; simp; omega))
    refine Exists.intro (k + 1) ⟨?_, ?_, ?_⟩
    · simp at h12; omega
    · simp at h12; omega
    exact Can.weak (Weak.lit (by simp only [go_sem, seval, wdR_len, wdR_pure, hp, filR_str_drop, filR_len, hll, subM, leV, inns, innr, V.inn, us, true_or, or_true] <;> (rw [wrap64 (by simp at h12; omega) (by simp at h12; omega)]; simp)) (by simp only [go_sem, seval, wdR_len, wdR_pure, hp, filR_str_drop, filR_len, hll, subM, leV, inns, innr, V.inn, us, true_or, or_true]) (by simp only [go_sem, seval, wdR_len, wdR_pure, hp, filR_str_drop, filR_len, hll, subM, leV, inns, innr, V.inn, us, true_or, or_true] <;> ((rw [← filR_set (by rw [hll]; simpa using h12), fst_get (by simpa using h12)]))))
  · refine AWp.exit ?_
    refine AWp.seq ?_
    refine AWp.rgn [] (by simp only [go_sem, seval, wdR_len, wdR_pure, hp, filR_str_drop, filR_len, hll]; rfl) ?_ ?_
    · (first | trivial | (simp; done) | (simp at h12; simp; omega))
    refine AWp.frz 18 (by simp only [go_sem, seval, wdR_len, wdR_pure, hp, filR_str_drop, filR_len, hll]; rfl) (by simp only [go_sem, seval, wdR_len, wdR_pure, hp, filR_str_drop, filR_len, hll]) (by simp only [go_sem, seval, wdR_len, wdR_pure, hp, filR_str_drop, filR_len, hll]; rfl) (by simp only [go_sem, seval, wdR_len, wdR_pure, hp, filR_str_drop, filR_len, hll]; rfl) ?_
    refine AWp.ret (And.intro (.inr rfl) ?_)
    exact Out.plain (by simp only [Tryz.results162]; rfl) (by simp only [resCs, resC, go_sem, seval, wdR_len, wdR_pure, hp, filR_str_drop, filR_len, hll] <;> (split <;> rfl)) (by simp only [resV, go_sem, seval, wdR_len, wdR_pure, hp, filR_str_drop, filR_len, hll] <;> (simp at h12; rw [filR_end (by omega)]; simp [← hll, List.take_of_length_le, peel])) (by simp only [go_sem, seval, wdR_len, wdR_pure, hp, filR_str_drop, filR_len, hll])
def bC (b : Bl) : List V := .i .i64 b.kind :: .s b.name :: (eC b.expr ++ eC b.thn)
theorem bC_eq (b : Bl) : bC b = [.i .i64 b.kind, .s b.name, .i .i64 b.expr.kind, .i .i64 b.expr.n, .s b.expr.s, .sl false (eR b.expr.kids), .i .i64 b.thn.kind, .i .i64 b.thn.n, .s b.thn.s, .sl false (eR b.thn.kids)] := by
  simp only [bC, eC_eq]; rfl
def smb (b : Bl) : Bool := decide (b.name.length < 4611686018427387904) && sm b.expr && sm b.thn
theorem smb_open {b : Bl} (h : smb b = true) : b.name.length < 4611686018427387904 ∧ sm b.expr = true ∧ sm b.thn = true := by
  simp only [smb, Bool.and_eq_true, decide_eq_true_eq] at h; exact ⟨h.1.1, h.1.2, h.2⟩
def bsrc (b : Bl) : Wd :=
  if b.kind = 1 then (b.name, 101) :: (wEq, 102) :: src b.expr 0 0
  else if b.kind = 2 then (wPrint, 103) :: src b.expr 0 0
  else if b.kind = 3 then ((wIf, 100) :: src b.expr 0 0 ++ [(wCol, -1), (wPrint, 103)]) ++ src b.thn 0 (cnt b.expr)
  else []
theorem bok0_open {b : Bl} (h : bok0 b = true) : (b.kind = 0 ∨ b.kind = 1 ∨ b.kind = 2 ∨ b.kind = 3) ∧ (b.kind = 1 ∨ b.kind = 2 ∨ b.kind = 3 → eok b.expr = true) ∧ (b.kind = 3 → eok b.thn = true) := by
  unfold bok0 at h
  by_cases k0 : b.kind = 0
  · simp [k0]
  by_cases k1 : b.kind = 1
  · simp [k1] at h; simp [k1]; exact pe_eok h.1.2
  by_cases k2 : b.kind = 2
  · simp [k2] at h; simp [k2]; exact pe_eok h.1.2
  by_cases k3 : b.kind = 3
  · simp [k3] at h; simp [k3]; exact ⟨pe_eok h.1.2, pe_eok h.2⟩
  · simp [k0, k1, k2, k3] at h
theorem bsrc_bw {b : Bl} (h : bok0 b = true) : (bsrc b).map (·.1) = bw b := by
  obtain ⟨h0, h1, h2⟩ := bok0_open h
  unfold bsrc bw
  rcases h0 with k | k | k | k
  · simp [k]
  · simp [k, src_wds, wds_one (eok_form (h1 (.inl k)))]
  · simp [k, src_wds, wds_one (eok_form (h1 (.inr (.inl k))))]
  · simp [k, src_wds, wds_one (eok_form (h1 (.inr (.inr k)))), wds_one (eok_form (h2 k))]
theorem many_5 {e : E} (h : eok e = true) : many e ((5 : Nat) : Int) ≤ 1000 := by have := eok_many h; show many e 5 ≤ 1000; omega
theorem cnt_5 {e : E} (h : eok e = true) : 1 ≤ cnt e ∧ cnt e ≤ 12 := by have := (wds_le 5 e 0 (eok_form h)).2.2.2; have h2 := eok_many h; have h3 : many e ((5 : Nat) : Int) = many e 5 := rfl; omega
theorem src_36 {e : E} (h : eok e = true) (must nx : Int) : (src e must nx).length ≤ 36 := by rw [src_len]; exact (eok_wds h must).2.1
theorem wdR_nil' (l : Wd) : wdR l = [] ↔ l = [] := by cases l <;> simp [wdR]
theorem bWords_a (b : Bl) (h : bok0 b = true) (hs : smb b = true) : ACall En 137 [.ag (bC b)] [] [.sl false (wdR (bsrc b))] [] := by
  obtain ⟨h0, h1, h2⟩ := bok0_open h
  obtain ⟨s1, s2, s3⟩ := smb_open hs
  have W : b.kind = 1 ∨ b.kind = 2 ∨ b.kind = 3 → _ := fun hk => words_a 5 b.expr 0 0 (eok_form (h1 hk)) s2 (many_5 (h1 hk)) (by decide) (by have := cnt_5 (h1 hk); omega) (by decide)
  have W3 : b.kind = 3 → _ := fun hk => words_a 5 b.thn 0 (0 + cnt b.expr) (eok_form (h2 hk)) s3 (many_5 (h2 hk)) (by have := cnt_5 (h1 (.inr (.inr hk))); omega) (by have := cnt_5 (h1 (.inr (.inr hk))); have := cnt_5 (h2 hk); omega) (by decide)
  refine acall_of_body (fn := Tryz.f137) [] Tryz.func137 rfl rfl (by simp) fun C => ?_
  rw [entry_eq]
  simp only [Tryz.ntmps137, List.length_cons, List.length_nil, Nat.reduceAdd, Nat.reduceSub, List.replicate_succ, List.replicate_zero, List.cons_append, List.nil_append, numL]
  refine AWp.seq ?_
  refine AWp.rgn [] (by simp only [go_sem, seval, wdR_len, wdR_pure, List.length_append, List.take_of_length_le, bC_eq]; rfl) ?_ ?_
  · (first | trivial | (simp; done) | (simp [fsOk, List.forall_mem_append, wdR_rows]; done))
  refine AWp.seq ?_
  refine AWp.rgn [] (by simp only [go_sem, seval, wdR_len, wdR_pure, List.length_append, List.take_of_length_le, bC_eq]; rfl) ?_ ?_
  · (first | trivial | (simp; done) | (simp [fsOk, List.forall_mem_append, wdR_rows]; done))
  refine AWp.seq ?_
  refine AWp.seq ?_
  refine AWp.rgn [] (by simp only [go_sem, seval, wdR_len, wdR_pure, List.length_append, List.take_of_length_le, bC_eq]; rfl) ?_ ?_
  · (first | trivial | (simp; done) | (simp [fsOk, List.forall_mem_append, wdR_rows]; done))
  refine AWp.block ?_
  refine AWp.seq ?_
  refine AWp.rgn [] (by simp only [go_sem, seval, wdR_len, wdR_pure, List.length_append, List.take_of_length_le, bC_eq]; rfl) ?_ ?_
  · (first | trivial | (simp; done) | (simp [fsOk, List.forall_mem_append, wdR_rows]; done))
  refine AWp.condB (by simp only [go_sem, seval, wdR_len, wdR_pure, List.length_append, List.take_of_length_le, bC_eq]; rfl) (by simp only [go_sem, seval, wdR_len, wdR_pure, List.length_append, List.take_of_length_le, bC_eq]) (fun h7 => ?_) (fun h7 => ?_)
  · refine AWp.seq ?_
    refine AWp.rgnD [callN [13] [26] (W (.inl (by simpa using h7)))] enM (by simp only [go_sem, seval, wdR_len, wdR_pure, List.length_append, List.take_of_length_le, bC_eq, memEq, clrs]; rfl) (by rfl) ?_ ?_
    · have q := h1 (.inl (by simpa using h7)); have q2 := (src_36 q 0 0); have q3 : src b.expr 0 0 ≠ [] := (fun e => by have := (eok_wds q 0).1; rw [← src_len b.expr 0 0, e] at this; simp at this); simp [fsOk, wdR_rows, q3, wdR_nil']; omega
    refine AWp.frz 27 (by simp only [go_sem, seval, wdR_len, wdR_pure, List.length_append, List.take_of_length_le, bC_eq]; rfl) (by simp only [go_sem, seval, wdR_len, wdR_pure, List.length_append, List.take_of_length_le, bC_eq]) (by simp only [go_sem, seval, wdR_len, wdR_pure, List.length_append, List.take_of_length_le, bC_eq]; rfl) (by simp only [go_sem, seval, wdR_len, wdR_pure, List.length_append, List.take_of_length_le, bC_eq]; rfl) ?_
    refine AWp.ret (And.intro (.inr rfl) ?_)
    exact Out.plain (by simp only [Tryz.results137]; rfl) (by simp only [resCs, resC, go_sem, seval, wdR_len, wdR_pure, List.length_append, List.take_of_length_le, bC_eq] <;> (split <;> rfl)) (by simp only [resV, go_sem, seval, wdR_len, wdR_pure, List.length_append, List.take_of_length_le, bC_eq] <;> (have k : b.kind = 1 := (by simpa using h7); rw [if_pos (by omega), List.take_of_length_le (by simp [wdR_len]; omega)]; simp [bsrc, k, wdR, peel, wEq])) (by simp only [go_sem, seval, wdR_len, wdR_pure, List.length_append, List.take_of_length_le, bC_eq])
  · refine AWp.seq ?_
    refine AWp.rgn [] (by simp only [go_sem, seval, wdR_len, wdR_pure, List.length_append, List.take_of_length_le, bC_eq]; rfl) ?_ ?_
    · (first | trivial | (simp; done) | (simp [fsOk, List.forall_mem_append, wdR_rows]; done))
    refine AWp.condB (by simp only [go_sem, seval, wdR_len, wdR_pure, List.length_append, List.take_of_length_le, bC_eq]; rfl) (by simp only [go_sem, seval, wdR_len, wdR_pure, List.length_append, List.take_of_length_le, bC_eq]) (fun h18 => ?_) (fun h18 => ?_)
    · refine AWp.seq ?_
      refine AWp.rgn [callN [13] [34] (W (.inr (.inl (by simpa using h18))))] (by simp only [go_sem, seval, wdR_len, wdR_pure, List.length_append, List.take_of_length_le, bC_eq, memEq, clrs]; rfl) ?_ ?_
      · have q := h1 (.inr (.inl (by simpa using h18))); have q2 := (src_36 q 0 0); have q3 : src b.expr 0 0 ≠ [] := (fun e => by have := (eok_wds q 0).1; rw [← src_len b.expr 0 0, e] at this; simp at this); simp [fsOk, wdR_rows, q3, wdR_nil']; omega
      refine AWp.frz 35 (by simp only [go_sem, seval, wdR_len, wdR_pure, List.length_append, List.take_of_length_le, bC_eq]; rfl) (by simp only [go_sem, seval, wdR_len, wdR_pure, List.length_append, List.take_of_length_le, bC_eq]) (by simp only [go_sem, seval, wdR_len, wdR_pure, List.length_append, List.take_of_length_le, bC_eq]; rfl) (by simp only [go_sem, seval, wdR_len, wdR_pure, List.length_append, List.take_of_length_le, bC_eq]; rfl) ?_
      refine AWp.ret (And.intro (.inr rfl) ?_)
      exact Out.plain (by simp only [Tryz.results137]; rfl) (by simp only [resCs, resC, go_sem, seval, wdR_len, wdR_pure, List.length_append, List.take_of_length_le, bC_eq] <;> (split <;> rfl)) (by simp only [resV, go_sem, seval, wdR_len, wdR_pure, List.length_append, List.take_of_length_le, bC_eq] <;> (have k : b.kind = 2 := (by simpa using h18); rw [if_pos (by omega), List.take_of_length_le (by simp [wdR_len]; omega)]; simp [bsrc, k, wdR, peel, wPrint])) (by simp only [go_sem, seval, wdR_len, wdR_pure, List.length_append, List.take_of_length_le, bC_eq])
    · refine AWp.seq ?_
      refine AWp.rgn [] (by simp only [go_sem, seval, wdR_len, wdR_pure, List.length_append, List.take_of_length_le, bC_eq]; rfl) ?_ ?_
      · (first | trivial | (simp; done) | (simp [fsOk, List.forall_mem_append, wdR_rows]; done))
      refine AWp.condB (by simp only [go_sem, seval, wdR_len, wdR_pure, List.length_append, List.take_of_length_le, bC_eq]; rfl) (by simp only [go_sem, seval, wdR_len, wdR_pure, List.length_append, List.take_of_length_le, bC_eq]) (fun h26 => ?_) (fun h26 => ?_)
      · refine AWp.seq ?_
        refine AWp.rgn [callN [13] [42] (W (.inr (.inr (by simpa using h26))))] (by simp only [go_sem, seval, wdR_len, wdR_pure, List.length_append, List.take_of_length_le, bC_eq, memEq, clrs]; rfl) ?_ ?_
        · have q := h1 (.inr (.inr (by simpa using h26))); have q2 := (src_36 q 0 0); have q3 : src b.expr 0 0 ≠ [] := (fun e => by have := (eok_wds q 0).1; rw [← src_len b.expr 0 0, e] at this; simp at this); simp [fsOk, wdR_rows, q3, wdR_nil']; omega
        refine AWp.seq ?_
        refine AWp.rgn [] (by simp only [go_sem, seval, wdR_len, wdR_pure, List.length_append, List.take_of_length_le, bC_eq]; rfl) ?_ ?_
        · have q := h1 (.inr (.inr (by simpa using h26))); have q2 := (src_36 q 0 0); simp [fsOk, wdR_rows]; omega
        refine AWp.seq ?_
        refine AWp.rgn [callN [13] [52] (W3 (by simpa using h26))] (by simp only [go_sem, seval, wdR_len, wdR_pure, List.length_append, List.take_of_length_le, bC_eq, memEq, clrs]; rfl) ?_ ?_
        · have q := h1 (.inr (.inr (by simpa using h26))); have q2 := (src_36 q 0 0); have q4 := src_36 (h2 (by simpa using h26)) 0 (0 + cnt b.expr); simp at q4; simp [fsOk, wdR_rows]; omega
        refine AWp.frz 53 (by simp only [go_sem, seval, wdR_len, wdR_pure, List.length_append, List.take_of_length_le, bC_eq]; rfl) (by simp only [go_sem, seval, wdR_len, wdR_pure, List.length_append, List.take_of_length_le, bC_eq]) (by simp only [go_sem, seval, wdR_len, wdR_pure, List.length_append, List.take_of_length_le, bC_eq]; rfl) (by simp only [go_sem, seval, wdR_len, wdR_pure, List.length_append, List.take_of_length_le, bC_eq]; rfl) ?_
        refine AWp.ret (And.intro (.inr rfl) ?_)
        exact Out.plain (by simp only [Tryz.results137]; rfl) (by simp only [resCs, resC, go_sem, seval, wdR_len, wdR_pure, List.length_append, List.take_of_length_le, bC_eq] <;> (split <;> rfl)) (by simp only [resV, go_sem, seval, wdR_len, wdR_pure, List.length_append, List.take_of_length_le, bC_eq] <;> (have k : b.kind = 3 := (by simpa using h26); rw [if_pos (by omega), List.take_of_length_le (by simp [wdR_len]; omega)]; simp [bsrc, k, wdR, peel, wPrint, wIf, wCol])) (by simp only [go_sem, seval, wdR_len, wdR_pure, List.length_append, List.take_of_length_le, bC_eq])
      · refine AWp.skip ?_
        refine AWp.seq ?_
        refine AWp.rgn [] (by simp only [go_sem, seval, wdR_len, wdR_pure, List.length_append, List.take_of_length_le, bC_eq]; rfl) ?_ ?_
        · (first | trivial | (simp; done) | (simp [fsOk, List.forall_mem_append, wdR_rows]; done))
        refine AWp.can (Can.slotLe 2 (.sl false []) (by simp only [go_sem, seval, wdR_len, wdR_pure, List.length_append, List.take_of_length_le, bC_eq] <;> trivial) (by simp only [go_sem, seval, wdR_len, wdR_pure, List.length_append, List.take_of_length_le, bC_eq] <;> rfl)) ?_
        refine AWp.ret (And.intro (.inr rfl) ?_)
        exact Out.plain (by simp only [Tryz.results137]; rfl) (by simp only [resCs, resC, go_sem, seval, wdR_len, wdR_pure, List.length_append, List.take_of_length_le, bC_eq] <;> (split <;> rfl)) (by simp only [resV, go_sem, seval, wdR_len, wdR_pure, List.length_append, List.take_of_length_le, bC_eq] <;> (have k : b.kind = 0 := (by simp_all); simp [bsrc, k, wdR])) (by simp only [go_sem, seval, wdR_len, wdR_pure, List.length_append, List.take_of_length_le, bC_eq])
end

section
set_option maxRecDepth 100000
set_option maxHeartbeats 4000000

theorem bw_text {b : Bl} (h : bok0 b = true) : (tokText (bw b)).length ≤ 1000 := by
  have := bw_le h
  have h2 := tokText_le (fun s hs => (this.2 s hs).2)
  omega
theorem bText_a (b : Bl) (h : bok0 b = true) (hs : smb b = true) : ACall En 103 [.ag (bC b)] [] [.s (tokText (bw b))] [] := by
  have h1 := bw_text h
  have h2 := (bw_le h).1
  have h3 := bsrc_bw h
  have h4 : (bsrc b).length = (bw b).length := by rw [← h3, List.length_map]
  refine acall_of_body (fn := Tryz.f103) [] Tryz.func103 rfl rfl (by simp) fun C => ?_
  rw [entry_eq]
  simp only [Tryz.ntmps103, List.length_cons, List.length_nil, Nat.reduceAdd, Nat.reduceSub, List.replicate_succ, List.replicate_zero, List.cons_append, List.nil_append, numL]
  refine AWp.seq ?_
  refine AWp.rgn [] (by simp only [go_sem, seval, bC_eq, wdR_pure, h3]; rfl) ?_ ?_
  · simp
  refine AWp.seq ?_
  refine AWp.rgn [call0 (bWords_a b h hs), call0 (bareWords_a (bsrc b) (by omega)), call0 (impTokText_a (bw b) (by omega) (by omega))] (by simp only [go_sem, seval, bC_eq, wdR_pure, h3]; rfl) ?_ ?_
  · simp
  refine AWp.ret (And.intro (.inr rfl) ?_)
  exact Out.plain (by simp only [Tryz.results103]; rfl) (by simp only [resCs, resC, go_sem, seval, bC_eq, wdR_pure, h3] <;> (split <;> rfl)) (by simp only [resV, go_sem, seval, bC_eq, wdR_pure, h3] <;> (rfl)) (by simp only [go_sem, seval, bC_eq, wdR_pure, h3])
theorem dec_cast (a b : Nat) : decide (a ≤ b) = decide ((a : Int) ≤ (b : Int)) := decide_eq_decide.2 (by omega)
theorem iBareOk_a (b : Bl) (hs : smb b = true) : ACall En 37 [.ag (bC b)] [] [.b (bok b)] [] := by
  obtain ⟨s1, s2, s3⟩ := smb_open hs
  refine acall_of_body (fn := Tryz.f37) [] Tryz.func37 rfl rfl (by simp) fun C => ?_
  rw [entry_eq]
  simp only [Tryz.ntmps37, List.length_cons, List.length_nil, Nat.reduceAdd, Nat.reduceSub, List.replicate_succ, List.replicate_zero, List.cons_append, List.nil_append, numL]
  refine AWp.seq ?_
  refine AWp.rgn [] (by simp only [go_sem, seval, bC_eq]; rfl) ?_ ?_
  · (first | trivial | (simp; done) | exact hJ.symm)
  refine AWp.seq ?_
  refine AWp.rgn [] (by simp only [go_sem, seval, bC_eq]; rfl) ?_ ?_
  · (first | trivial | (simp; done) | exact hJ.symm)
  refine AWp.seqJ (fun q : Bool => ⟨[.no, .pt 11 10 0 0, .no, .b q, .no, .no, .no, .no, .no, .no, .no, .no, .no, .no, .no, .no, .no, .no, .no, .no, .no, .no, .no, .no, .no, .no, .no, .no, .no, .no, .no, .no, .no, .no, .no, .no, .no, .no, .no, .no, .no, .no, .no, .no, .no, .no, .no, .no, .no, .no, .no, .no, .no, .no, .no, .no, .no, .no, .no, .no, .no, .no, .no, .no, .no, .no, .no, .no, .no, .no, .no, .no, .no], memOf [(11, ⟨64, 10, [bC b]⟩)], us [11]⟩) (fun q : Bool => q = bok0 b) ?_ (fun q hJ => ?_)
  · refine AWp.seq ?_
    refine AWp.rgn [] (by simp only [go_sem, seval, bC_eq]; rfl) ?_ ?_
    · (first | trivial | (simp; done) | exact hJ.symm)
    refine AWp.block ?_
    refine AWp.seq ?_
    refine AWp.rgn [] (by simp only [go_sem, seval, bC_eq]; rfl) ?_ ?_
    · (first | trivial | (simp; done) | exact hJ.symm)
    refine AWp.condB (by simp only [go_sem, seval, bC_eq]; rfl) (by simp only [go_sem, seval, bC_eq]) (fun h6 => ?_) (fun h6 => ?_)
    · refine AWp.rgn [call0 (nothing_a b.expr s2), call0 (nothing_a b.thn s3)] (by simp only [go_sem, seval, bC_eq]; rfl) ?_ ?_
      · (first | trivial | (simp; done) | exact hJ.symm)
      refine Exists.intro (bok0 b) ⟨?_, ?_⟩
      · rfl
      exact Can.weak (Weak.lit (by simp only [go_sem, seval, bC_eq, subM, leV, inns, innr, V.inn, us, true_or, or_true] <;> ((unfold bok0; simp_all))) (by simp only [go_sem, seval, bC_eq, subM, leV, inns, innr, V.inn, us, true_or, or_true]) (by simp only [go_sem, seval, bC_eq, subM, leV, inns, innr, V.inn, us, true_or, or_true]))
    · refine AWp.seq ?_
      refine AWp.rgn [] (by simp only [go_sem, seval, bC_eq]; rfl) ?_ ?_
      · (first | trivial | (simp; done) | exact hJ.symm)
      refine AWp.condB (by simp only [go_sem, seval, bC_eq]; rfl) (by simp only [go_sem, seval, bC_eq]) (fun h21 => ?_) (fun h21 => ?_)
      · refine AWp.rgn [call0 (isName_a b.name s1), call0 (plain_a b.expr s2), call0 (nothing_a b.thn s3)] (by simp only [go_sem, seval, bC_eq]; rfl) ?_ ?_
        · (first | trivial | (simp; done) | exact hJ.symm)
        refine Exists.intro (bok0 b) ⟨?_, ?_⟩
        · rfl
        exact Can.weak (Weak.lit (by simp only [go_sem, seval, bC_eq, subM, leV, inns, innr, V.inn, us, true_or, or_true] <;> ((unfold bok0; simp_all))) (by simp only [go_sem, seval, bC_eq, subM, leV, inns, innr, V.inn, us, true_or, or_true]) (by simp only [go_sem, seval, bC_eq, subM, leV, inns, innr, V.inn, us, true_or, or_true]))
      · refine AWp.seq ?_
        refine AWp.rgn [] (by simp only [go_sem, seval, bC_eq]; rfl) ?_ ?_
        · (first | trivial | (simp; done) | exact hJ.symm)
        refine AWp.condB (by simp only [go_sem, seval, bC_eq]; rfl) (by simp only [go_sem, seval, bC_eq]) (fun h36 => ?_) (fun h36 => ?_)
        · refine AWp.rgn [call0 (plain_a b.expr s2), call0 (nothing_a b.thn s3)] (by simp only [go_sem, seval, bC_eq]; rfl) ?_ ?_
          · (first | trivial | (simp; done) | exact hJ.symm)
          refine Exists.intro (bok0 b) ⟨?_, ?_⟩
          · rfl
          exact Can.weak (Weak.lit (by simp only [go_sem, seval, bC_eq, subM, leV, inns, innr, V.inn, us, true_or, or_true] <;> ((unfold bok0; simp_all))) (by simp only [go_sem, seval, bC_eq, subM, leV, inns, innr, V.inn, us, true_or, or_true]) (by simp only [go_sem, seval, bC_eq, subM, leV, inns, innr, V.inn, us, true_or, or_true]))
        · refine AWp.seq ?_
          refine AWp.rgn [] (by simp only [go_sem, seval, bC_eq]; rfl) ?_ ?_
          · (first | trivial | (simp; done) | exact hJ.symm)
          refine AWp.condB (by simp only [go_sem, seval, bC_eq]; rfl) (by simp only [go_sem, seval, bC_eq]) (fun h51 => ?_) (fun h51 => ?_)
          · refine AWp.rgn [call0 (plain_a b.expr s2), call0 (plain_a b.thn s3)] (by simp only [go_sem, seval, bC_eq]; rfl) ?_ ?_
            · (first | trivial | (simp; done) | exact hJ.symm)
            refine Exists.intro (bok0 b) ⟨?_, ?_⟩
            · rfl
            exact Can.weak (Weak.lit (by simp only [go_sem, seval, bC_eq, subM, leV, inns, innr, V.inn, us, true_or, or_true] <;> ((unfold bok0; simp_all))) (by simp only [go_sem, seval, bC_eq, subM, leV, inns, innr, V.inn, us, true_or, or_true]) (by simp only [go_sem, seval, bC_eq, subM, leV, inns, innr, V.inn, us, true_or, or_true]))
          · refine AWp.skip ?_
            refine Exists.intro (bok0 b) ⟨?_, ?_⟩
            · rfl
            exact Can.weak (Weak.lit (by simp only [go_sem, seval, bC_eq, subM, leV, inns, innr, V.inn, us, true_or, or_true] <;> ((unfold bok0; simp_all))) (by simp only [go_sem, seval, bC_eq, subM, leV, inns, innr, V.inn, us, true_or, or_true]) (by simp only [go_sem, seval, bC_eq, subM, leV, inns, innr, V.inn, us, true_or, or_true]))
  cases q
  · refine AWp.seq ?_
    refine AWp.rgn [callI (bok0 b = true) (fun h => bText_a b h hs)] (by simp only [go_sem, seval, bC_eq]; rfl) ?_ ?_
    · (first | trivial | (simp; done) | exact hJ.symm)
    refine AWp.ret (And.intro (.inr rfl) ?_)
    exact Out.plain (by simp only [Tryz.results37]; rfl) (by simp only [resCs, resC, go_sem, seval, bC_eq] <;> (split <;> rfl)) (by simp only [resV, go_sem, seval, bC_eq] <;> (rw [bok, ← hJ]; first | rfl | (rw [Bool.true_and, dec_cast]; rfl))) (by simp only [go_sem, seval, bC_eq])
  · refine AWp.seq ?_
    refine AWp.rgn [callI (bok0 b = true) (fun h => bText_a b h hs)] (by simp only [go_sem, seval, bC_eq]; rfl) ?_ ?_
    · (first | trivial | (simp; done) | exact hJ.symm)
    refine AWp.ret (And.intro (.inr rfl) ?_)
    exact Out.plain (by simp only [Tryz.results37]; rfl) (by simp only [resCs, resC, go_sem, seval, bC_eq] <;> (split <;> rfl)) (by simp only [resV, go_sem, seval, bC_eq] <;> (rw [bok, ← hJ]; first | rfl | (rw [Bool.true_and, dec_cast]; rfl))) (by simp only [go_sem, seval, bC_eq])
theorem bok_0 {b : Bl} (h : bok b = true) : bok0 b = true := by simp only [bok, Bool.and_eq_true] at h; exact h.1
def btxt (b : Bl) : Str := if bok b then tokText (bw b) else []
theorem iBareText_a (b : Bl) (hs : smb b = true) : ACall En 38 [.ag (bC b)] [] [.s (btxt b)] [] := by
  refine acall_of_body (fn := Tryz.f38) [] Tryz.func38 rfl rfl (by simp) fun C => ?_
  rw [entry_eq]
  simp only [Tryz.ntmps38, List.length_cons, List.length_nil, Nat.reduceAdd, Nat.reduceSub, List.replicate_succ, List.replicate_zero, List.cons_append, List.nil_append, numL]
  refine AWp.seq ?_
  refine AWp.rgn [] (by simp only [go_sem, seval, bC_eq]; rfl) ?_ ?_
  · first | trivial | simp
  refine AWp.seq ?_
  refine AWp.seq ?_
  refine AWp.rgn [call0 (iBareOk_a b hs)] (by simp only [go_sem, seval, bC_eq]; rfl) ?_ ?_
  · simp
  refine AWp.condB (by simp only [go_sem, seval, bC_eq]; rfl) (by simp only [go_sem, seval, bC_eq]) (fun h5 => ?_) (fun h5 => ?_)
  · refine AWp.seq ?_
    refine AWp.rgn [] (by simp only [go_sem, seval, bC_eq]; rfl) ?_ ?_
    · first | trivial | simp
    refine AWp.ret (And.intro (.inr rfl) ?_)
    exact Out.plain (by simp only [Tryz.results38]; rfl) (by simp only [resCs, resC, go_sem, seval, bC_eq] <;> (split <;> rfl)) (by simp only [resV, go_sem, seval, bC_eq] <;> (simp at h5; simp [btxt, h5])) (by simp only [go_sem, seval, bC_eq])
  · refine AWp.skip ?_
    refine AWp.seq ?_
    refine AWp.rgn [callI (bok b = true) (fun h => bText_a b (bok_0 h) hs)] (by simp only [go_sem, seval, bC_eq]; rfl) ?_ ?_
    · simpa using h5
    refine AWp.ret (And.intro (.inr rfl) ?_)
    exact Out.plain (by simp only [Tryz.results38]; rfl) (by simp only [resCs, resC, go_sem, seval, bC_eq] <;> (split <;> rfl)) (by simp only [resV, go_sem, seval, bC_eq] <;> (simp at h5; simp [btxt, h5])) (by simp only [go_sem, seval, bC_eq])
end

section
set_option maxRecDepth 100000
set_option maxHeartbeats 4000000

def lvl (e : E) : Int := if e.kind = 3 then (if e.s = [60] then 1 else if e.s = [42] then 3 else 2) else 4
theorem lvl_op {e : E} (k : e.kind = 3) (h : isOp e.s = true) : lvl e = tight e.s := by
  simp only [isOp, Bool.or_eq_true, beq_iff_eq] at h
  unfold lvl
  rw [if_pos k]
  rcases h with ((h | h) | h) | h <;> rw [h] <;> decide
theorem l4Level_a (e : E) : ACall En 193 [.ag (eC e)] [] [.i .i64 (lvl e)] [] := by
  refine acall_of_body (fn := Tryz.f193) [] Tryz.func193 rfl rfl (by simp) fun C => ?_
  rw [entry_eq]
  simp only [Tryz.ntmps193, List.length_cons, List.length_nil, Nat.reduceAdd, Nat.reduceSub, List.replicate_succ, List.replicate_zero, List.cons_append, List.nil_append, numL]
  refine AWp.seq ?_
  refine AWp.rgn [] (by simp only [go_sem, seval]; rfl) ?_ ?_
  · first | trivial | simp
  refine AWp.seq ?_
  refine AWp.seq ?_
  refine AWp.rgn [] (by simp only [go_sem, seval]; rfl) ?_ ?_
  · first | trivial | simp
  refine AWp.condB (by simp only [go_sem, seval]; rfl) (by simp only [go_sem, seval]) (fun h5 => ?_) (fun h5 => ?_)
  · refine AWp.seq ?_
    refine AWp.rgn [] (by simp only [go_sem, seval]; rfl) ?_ ?_
    · first | trivial | simp
    refine AWp.ret (And.intro (.inr rfl) ?_)
    exact Out.plain (by simp only [Tryz.results193]; rfl) (by simp only [resCs, resC, go_sem, seval] <;> (split <;> rfl)) (by simp only [resV, go_sem, seval] <;> (simp at h5; simp [lvl, h5])) (by simp only [go_sem, seval])
  · refine AWp.skip ?_
    refine AWp.seq ?_
    refine AWp.seq ?_
    refine AWp.rgn [] (by simp only [go_sem, seval]; rfl) ?_ ?_
    · first | trivial | simp
    refine AWp.block ?_
    refine AWp.seq ?_
    refine AWp.rgn [] (by simp only [go_sem, seval]; rfl) ?_ ?_
    · first | trivial | simp
    refine AWp.condB (by simp only [go_sem, seval]; rfl) (by simp only [go_sem, seval]) (fun h8 => ?_) (fun h8 => ?_)
    · refine AWp.seq ?_
      refine AWp.rgn [] (by simp only [go_sem, seval]; rfl) ?_ ?_
      · first | trivial | simp
      refine AWp.ret (And.intro (.inr rfl) ?_)
      exact Out.plain (by simp only [Tryz.results193]; rfl) (by simp only [resCs, resC, go_sem, seval] <;> (split <;> rfl)) (by simp only [resV, go_sem, seval] <;> (simp at h5 h8; simp [lvl, h5, h8])) (by simp only [go_sem, seval])
    · refine AWp.seq ?_
      refine AWp.rgn [] (by simp only [go_sem, seval]; rfl) ?_ ?_
      · first | trivial | simp
      refine AWp.condB (by simp only [go_sem, seval]; rfl) (by simp only [go_sem, seval]) (fun h10 => ?_) (fun h10 => ?_)
      · refine AWp.seq ?_
        refine AWp.rgn [] (by simp only [go_sem, seval]; rfl) ?_ ?_
        · first | trivial | simp
        refine AWp.ret (And.intro (.inr rfl) ?_)
        exact Out.plain (by simp only [Tryz.results193]; rfl) (by simp only [resCs, resC, go_sem, seval] <;> (split <;> rfl)) (by simp only [resV, go_sem, seval] <;> (simp at h5 h8 h10; simp [lvl, h5, h10])) (by simp only [go_sem, seval])
      · refine AWp.skip ?_
        refine AWp.seq ?_
        refine AWp.rgn [] (by simp only [go_sem, seval]; rfl) ?_ ?_
        · first | trivial | simp
        refine AWp.ret (And.intro (.inr rfl) ?_)
        exact Out.plain (by simp only [Tryz.results193]; rfl) (by simp only [resCs, resC, go_sem, seval] <;> (split <;> rfl)) (by simp only [resV, go_sem, seval] <;> (simp at h5 h8 h10; simp [lvl, h5, h8, h10])) (by simp only [go_sem, seval])
theorem l7Expr_a (e : E) (hs : sm e = true) : ACall En 112 [.ag (eC e)] [] [.b (pe e)] [] := by
  refine acall_of_body (fn := Tryz.f112) [] Tryz.func112 rfl rfl (by simp) fun C => ?_
  rw [entry_eq]
  simp only [Tryz.ntmps112, List.length_cons, List.length_nil, Nat.reduceAdd, Nat.reduceSub, List.replicate_succ, List.replicate_zero, List.cons_append, List.nil_append, numL]
  refine AWp.seq ?_
  refine AWp.rgn [] (by simp only [go_sem, seval]; rfl) ?_ ?_
  · first | trivial | simp
  refine AWp.seq ?_
  refine AWp.rgn [call0 (sExprOk_a e hs), call0 (l7Plain_a e hs)] (by simp only [go_sem, seval]; rfl) ?_ ?_
  · simp
  refine AWp.ret (And.intro (.inr rfl) ?_)
  exact Out.plain (by simp only [Tryz.results112]; rfl) (by simp only [resCs, resC, go_sem, seval] <;> (split <;> rfl)) (by simp only [resV, go_sem, seval] <;> (rfl)) (by simp only [go_sem, seval])
theorem dec_step {n : Nat} (h : 9 < n) (o : Str) : Lib.decDigits n ++ o = Lib.decDigits (n / 10) ++ (UInt8.ofNat (48 + n % 10) :: o) := by
  rw [decDigits_step (by omega)]; simp
theorem wrap8 {n : Int} (h1 : 0 ≤ n) (h2 : n < 256) : IntKind.u8.wrap n = n := by
  simp only [IntKind.wrap, IntKind.signed, IntKind.bits]; simp; omega
theorem dec_small (n : Nat) : (Lib.decDigits n).length ≤ n + 1 := by
  induction n using Nat.strongRecOn with
  | ind n ih =>
    by_cases h : n < 10
    · rw [Lib.decDigits_one h]; simp
    · rw [decDigits_step h]
      have := ih (n / 10) (by omega)
      simp; omega
theorem l12DecP_a (n : Nat) (hn : n < 4611686018427387904) : ACall En 194 [.i .i64 n] [] [.s (Lib.decDigits n)] [] := by
  refine acall_of_body (fn := Tryz.f194) [] Tryz.func194 rfl rfl (by simp) fun C => ?_
  rw [entry_eq]
  simp only [Tryz.ntmps194, List.length_cons, List.length_nil, Nat.reduceAdd, Nat.reduceSub, List.replicate_succ, List.replicate_zero, List.cons_append, List.nil_append, numL]
  refine AWp.seq ?_
  refine AWp.rgn [] (by simp only [go_sem, seval]; rfl) ?_ ?_
  · (first | trivial | (simp; done) | (have q := dec_small n; rw [hI.2] at q; simp at q; simp; omega))
  refine AWp.seq ?_
  refine AWp.seq ?_
  refine AWp.rgn [] (by simp only [go_sem, seval]; rfl) ?_ ?_
  · (first | trivial | (simp; done) | (have q := dec_small n; rw [hI.2] at q; simp at q; simp; omega))
  refine AWp.condB (by simp only [go_sem, seval]; rfl) (by simp only [go_sem, seval]) (fun h5 => ?_) (fun h5 => ?_)
  · simp at h5; omega
  · refine AWp.skip ?_
    refine AWp.seq ?_
    refine AWp.seq ?_
    refine AWp.rgn [] (by simp only [go_sem, seval]; rfl) ?_ ?_
    · (first | trivial | (simp; done) | (have q := dec_small n; rw [hI.2] at q; simp at q; simp; omega))
    refine AWp.condB (by simp only [go_sem, seval]; rfl) (by simp only [go_sem, seval]) (fun h7 => ?_) (fun h7 => ?_)
    · simp at h7; omega
    · refine AWp.skip ?_
      refine AWp.seq ?_
      refine AWp.rgn [] (by simp only [go_sem, seval]; rfl) ?_ ?_
      · (first | trivial | (simp; done) | (have q := dec_small n; rw [hI.2] at q; simp at q; simp; omega))
      refine AWp.seq ?_
      refine AWp.block ?_
      refine AWp.loopK (fun k : Nat × Str => ⟨[.i .i64 k.1, .no, .no, .s k.2, .no, .no, .no, .no, .no, .no, .no, .no, .no, .no, .no, .no, .no, .no, .no, .no, .no, .no, .no, .no, .no, .no, .no, .no, .no, .no, .no], memOf [], us []⟩) (fun k : Nat × Str => k.1 ≤ n ∧ Lib.decDigits n = Lib.decDigits k.1 ++ k.2) (fun k : Nat × Str => k.1) ((n, [])) ?_ ?_ (fun k hI => ?_)
      · simp
      · exact Can.weak (Weak.lit (by simp only [go_sem, seval, subM, leV, inns, innr, V.inn, us, true_or, or_true] <;> (simp)) (by simp only [go_sem, seval, subM, leV, inns, innr, V.inn, us, true_or, or_true]) (by simp only [go_sem, seval, subM, leV, inns, innr, V.inn, us, true_or, or_true]))
      refine AWp.seq ?_
      refine AWp.seq ?_
      refine AWp.rgn [] (by simp only [go_sem, seval]; rfl) ?_ ?_
      · (first | trivial | (simp; done) | (have q := dec_small n; rw [hI.2] at q; simp at q; simp; omega))
      refine AWp.condB (by simp only [go_sem, seval]; rfl) (by simp only [go_sem, seval]) (fun h13 => ?_) (fun h13 => ?_)
      · refine AWp.skip ?_
        refine AWp.block ?_
        refine AWp.seq ?_
        refine AWp.rgnS [19] [cvO En] (by simp only [go_sem, seval]; rfl) ?_ ?_
        · (first | trivial | (simp; done) | (have q := dec_small n; rw [hI.2] at q; simp at q; simp; omega))
        refine AWp.rgn [] (by simp only [go_sem, seval]; rfl) ?_ ?_
        · (first | trivial | (simp; done) | (have q := dec_small n; rw [hI.2] at q; simp at q; simp; omega))
        refine Exists.intro ((k.1 / 10, UInt8.ofNat (48 + k.1 % 10) :: k.2)) ⟨?_, ?_, ?_⟩
        · simp at h13; refine ⟨by dsimp only; omega, ?_⟩; rw [hI.2]; exact dec_step (by omega) _
        · simp at h13; simp; omega
        exact Can.weak (Weak.lit (by simp only [go_sem, seval, subM, leV, inns, innr, V.inn, us, true_or, or_true] <;> (simp at h13; rw [Int.tdiv_eq_ediv_of_nonneg (by omega), Int.tmod_eq_emod_of_nonneg (by omega), wrap64 (by omega) (by omega), wrap64 (by omega) (by omega), wrap8 (by omega) (by omega)]; refine ⟨by omega, ?_⟩; rw [show (48 + (k.1 : Int) % 10).toNat = 48 + k.1 % 10 by omega])) (by simp only [go_sem, seval, subM, leV, inns, innr, V.inn, us, true_or, or_true]) (by simp only [go_sem, seval, subM, leV, inns, innr, V.inn, us, true_or, or_true]))
      · refine AWp.exit ?_
        refine AWp.seq ?_
        refine AWp.rgnS [28] [cvO En] (by simp only [go_sem, seval]; rfl) ?_ ?_
        · (first | trivial | (simp; done) | (have q := dec_small n; rw [hI.2] at q; simp at q; simp; omega))
        refine AWp.ret (And.intro (.inr rfl) ?_)
        exact Out.plain (by simp only [Tryz.results194]; rfl) (by simp only [resCs, resC, go_sem, seval] <;> (split <;> rfl)) (by simp only [resV, go_sem, seval] <;> (simp at h13; rw [hI.2, wrap64 (by omega) (by omega), wrap8 (by omega) (by omega), Lib.decDigits_one (by omega), show (48 + (k.1 : Int)).toNat = 48 + k.1 by omega]; rfl)) (by simp only [go_sem, seval])
theorem itoa_neg {n : Int} (h : n < 0) : Lib.itoa n = 45 :: Lib.decDigits (-n).toNat := by unfold Lib.itoa; rw [if_pos h, show n.natAbs = (-n).toNat by omega]
theorem l12Dec_a (n : Int) (h1 : -4611686018427387904 < n) (h2 : n < 4611686018427387904) : ACall En 194 [.i .i64 n] [] [.s (Lib.itoa n)] [] := by
  by_cases h : 0 ≤ n
  · obtain ⟨m, rfl⟩ := Int.eq_ofNat_of_zero_le h
    rw [itoa_dec h]
    exact l12DecP_a m (by omega)
  have hm : ((-n).toNat : Int) = -n := by omega
  have A := l12DecP_a (-n).toNat (by omega)
  rw [hm] at A
  have q := dec_small (-n).toNat
  refine acall_of_body (fn := Tryz.f194) [] Tryz.func194 rfl rfl (by simp) fun C => ?_
  rw [entry_eq]
  simp only [Tryz.ntmps194, List.length_cons, List.length_nil, Nat.reduceAdd, Nat.reduceSub, List.replicate_succ, List.replicate_zero, List.cons_append, List.nil_append, numL]
  refine AWp.seq ?_
  refine AWp.rgn [] (by simp only [go_sem, seval]; rfl) ?_ ?_
  · (first | trivial | (simp; done) | (rw [Int.zero_sub, wrap64 (by omega) (by omega)]; omega))
  refine AWp.seq ?_
  refine AWp.seq ?_
  refine AWp.rgn [] (by simp only [go_sem, seval]; rfl) ?_ ?_
  · (first | trivial | (simp; done) | (rw [Int.zero_sub, wrap64 (by omega) (by omega)]; omega))
  refine AWp.condB (by simp only [go_sem, seval]; rfl) (by simp only [go_sem, seval]) (fun h5 => ?_) (fun h5 => ?_)
  · simp at h5; omega
  · refine AWp.skip ?_
    refine AWp.seq ?_
    refine AWp.seq ?_
    refine AWp.rgn [] (by simp only [go_sem, seval]; rfl) ?_ ?_
    · (first | trivial | (simp; done) | (rw [Int.zero_sub, wrap64 (by omega) (by omega)]; omega))
    refine AWp.condB (by simp only [go_sem, seval]; rfl) (by simp only [go_sem, seval]) (fun h7 => ?_) (fun h7 => ?_)
    · refine AWp.seq ?_
      refine AWp.rgn [call0 A] (by simp only [go_sem, seval, wrap64 (show -9223372036854775808 ≤ -n by omega) (by omega)]; rfl) ?_ ?_
      · (first | trivial | (simp; done) | (rw [Int.zero_sub, wrap64 (by omega) (by omega)]; omega))
      refine AWp.ret (And.intro (.inr rfl) ?_)
      exact Out.plain (by simp only [Tryz.results194]; rfl) (by simp only [resCs, resC, go_sem, seval] <;> (split <;> rfl)) (by simp only [resV, go_sem, seval] <;> (rw [itoa_neg (by omega)])) (by simp only [go_sem, seval])
    · simp at h7; omega
end

section
set_option maxRecDepth 100000
set_option maxHeartbeats 1000000

theorem strR_app (a b : List Str) : strR (a ++ b) = strR a ++ strR b := by simp [strR]
theorem strR_rows (l : List Str) : (∀ r, r ∈ strR l → r.length = 1) = True := eq_true fun r hr => strR_one hr
theorem strR_nil' (l : List Str) : strR l = [] ↔ l = [] := by cases l <;> simp [strR]
theorem wds_brk0 {e : E} {d : Int} (h : form e d = true) (must : Int) : wds e must = if e.kind = 3 ∧ tight e.s < must then [40] :: (wds e 0 ++ [[41]]) else wds e 0 := by
  have := src_brk h must 0
  unfold wds
  rw [this, brk_map]
  by_cases h1 : e.kind = 3 <;> by_cases h2 : tight e.s < must <;> simp [h1, h2]
theorem wds_le1 {e : E} {d : Nat} (h : form e d = true) (hm : many e d ≤ 1000) (must : Int) : (wds e must).length ≤ 3000 := by
  have := wds_le d e must h; omega
theorem lev_form {e : E} {d : Int} (h : form e d = true) (must : Int) (hm : must ≤ 4) : (lvl e < must) = (e.kind = 3 ∧ tight e.s < must) := by
  rcases (form_open h).2 with ⟨k1, _⟩ | ⟨k1, _⟩ | ⟨k1, h1, h2, h3, h4, h5⟩ | ⟨k1, _⟩
  · simp [lvl, k1]; omega
  · simp [lvl, k1]; omega
  · rw [lvl_op k1 h2]; simp [k1]
  · simp [lvl, k1]; omega
theorem l4Words_a (d : Nat) : ∀ (e : E) (t : Int), form e d = true → sm e = true → many e d ≤ 1000 → t ≤ 4 → -1000 ≤ t → ACall En 153 [.ag (eC e), .i .i64 t] [] [.sl false (strR (wds e t))] [] := by
  induction d with
  | zero => intro e t h; have := (form_open h).1; omega
  | succ d ih =>
  intro e t h hs hm ht ht2
  obtain ⟨a1, a2, a3⟩ := sm_open hs
  have e1 : ((d + 1 : Nat) : Int) - 1 = (d : Int) := by omega
  have hd1 : (1 : Int) ≤ ((d + 1 : Nat) : Int) := by omega
  have g1 : e.kind = 1 → 0 ≤ e.n ∧ e.n ≤ 1000000 := fun hk => by
    rcases (form_open h).2 with ⟨k1, h1, h2, h3, h4⟩ | ⟨k1, h1, h2, h3⟩ | ⟨k1, _⟩ | ⟨k1, _⟩ <;> omega
  have g3 : e.kind = 3 → e.kids.length = 2 ∧ 1 ≤ tight e.s ∧ tight e.s ≤ 3 ∧ form (e.kids.getD 0 E0) d = true ∧ form (e.kids.getD 1 E0) d = true ∧ many (e.kids.getD 0 E0) d ≤ 1000 ∧ many (e.kids.getD 1 E0) d ≤ 1000 ∧ lvl e = tight e.s := fun hk => by
    rcases (form_open h).2 with ⟨k1, _⟩ | ⟨k1, _⟩ | ⟨k1, h1, h2, h3, h4, h5⟩ | ⟨k1, _⟩ <;> try omega
    rw [e1] at h4 h5
    have := isOp_tight h2
    have hm2 := many_two hd1 h3
    rw [e1] at hm2
    have q1 := wds_le d _ 0 h4
    have q2 := wds_le d _ 0 h5
    exact ⟨h3, this.1, this.2, h4, h5, by omega, by omega, lvl_op k1 h2⟩
  have g4 : e.kind = 4 → e.kids.length = 1 ∧ form (e.kids.getD 0 E0) d = true ∧ many (e.kids.getD 0 E0) d ≤ 1000 := fun hk => by
    rcases (form_open h).2 with ⟨k1, _⟩ | ⟨k1, _⟩ | ⟨k1, _⟩ | ⟨k1, h1, h2, h3, h4⟩ <;> try omega
    rw [e1] at h4
    have hm2 := many_one hd1 h3
    rw [e1] at hm2
    have q1 := wds_le d _ 0 h4
    exact ⟨h3, h4, by omega⟩
  have g0 : e.kind = 1 ∨ e.kind = 2 ∨ e.kind = 3 ∨ e.kind = 4 := by
    rcases (form_open h).2 with ⟨k1, _⟩ | ⟨k1, _⟩ | ⟨k1, _⟩ | ⟨k1, _⟩ <;> omega
  have hT : e.kind = 3 → wds e 0 = wds (e.kids.getD 0 E0) (if lvl e = 1 then 2 else lvl e) ++ [e.s] ++ wds (e.kids.getD 1 E0) (lvl e + 1) := fun hk => by
    have q := g3 hk
    rw [wds_two hk q.1, if_neg (by omega), q.2.2.2.2.2.2.2, show max 2 (tight e.s) = if tight e.s = 1 then 2 else tight e.s by split <;> omega]
  have hL : ∀ k, k < e.kids.length → ∀ m, (wds (e.kids.getD k E0) m).length ≤ 3000 := fun k hk m => by
    rcases g0 with hk4 | hk4 | hk4 | hk4
    · rcases (form_open h).2 with ⟨k1, h1, h2, h3, h4⟩ | ⟨k1, _⟩ | ⟨k1, _⟩ | ⟨k1, _⟩ <;> try omega
      rw [h4] at hk; simp at hk
    · rcases (form_open h).2 with ⟨k1, _⟩ | ⟨k1, h1, h2, h3⟩ | ⟨k1, _⟩ | ⟨k1, _⟩ <;> try omega
      rw [h3] at hk; simp at hk
    · have := g3 hk4
      have hk2 : k = 0 ∨ k = 1 := by omega
      rcases hk2 with rfl | rfl
      · exact wds_le1 this.2.2.2.1 this.2.2.2.2.2.1 _
      · exact wds_le1 this.2.2.2.2.1 this.2.2.2.2.2.2.1 _
    · have := g4 hk4
      have hk2 : k = 0 := by omega
      subst hk2
      exact wds_le1 this.2.1 this.2.2 _
  have hW := wds_le1 h hm
  have hA : e.kind = 4 → wds e 0 = wds (e.kids.getD 0 E0) 4 ++ [[97, 115], e.s] := fun hk => wds_as hk (g4 hk).1 0
  refine acall_of_body (fn := Tryz.f153) [] Tryz.func153 rfl rfl (by simp) fun C => ?_
  rw [entry_eq]
  simp only [Tryz.ntmps153, List.length_cons, List.length_nil, Nat.reduceAdd, Nat.reduceSub, List.replicate_succ, List.replicate_zero, List.cons_append, List.nil_append, numL]
  refine AWp.seq ?_
  refine AWp.rgn [] (by simp only [go_sem, seval, strR_len, strR_pure, List.length_append, List.take_of_length_le]; rfl) ?_ ?_
  · (first | trivial | (simp; done) | (simp [strR_rows]; done))
  refine AWp.seq ?_
  refine AWp.rgn [] (by simp only [go_sem, seval, strR_len, strR_pure, List.length_append, List.take_of_length_le]; rfl) ?_ ?_
  · (first | trivial | (simp; done) | (simp [strR_rows]; done))
  refine AWp.seq ?_
  refine AWp.rgn [call0 (l4Level_a e)] (by simp only [go_sem, seval, strR_len, strR_pure, List.length_append, List.take_of_length_le]; rfl) ?_ ?_
  · (first | trivial | (simp; done) | (simp [strR_rows]; done))
  refine AWp.seqJ (fun u : Unit => ⟨[.no, .i .i64 t, .no, .no, .no, .ow 150 1 0 (wds e 0).length, .i .i64 (lvl e), .no, .no, .no, .no, .no, .no, .no, .no, .no, .no, .no, .no, .no, .no, .no, .no, .no, .no, .no, .no, .no, .no, .no, .no, .no, .no, .no, .no, .no, .no, .no, .no, .no, .no, .no, .no, .no, .no, .no, .no, .no, .no, .no, .no, .no, .no, .no, .no, .no, .no, .no, .no, .no, .no, .no, .no, .no, .no, .no, .no, .no, .no, .no, .no, .no, .no], memOf [(150, ⟨9, 1, strR (wds e 0)⟩)], us [150]⟩) (fun u : Unit => True) ?_ (fun u hJ => ?_)
  · refine AWp.seq ?_
    refine AWp.rgn [] (by simp only [go_sem, seval, strR_len, strR_pure, List.length_append, List.take_of_length_le]; rfl) ?_ ?_
    · (first | trivial | (simp; done) | (simp [strR_rows]; done))
    refine AWp.block ?_
    refine AWp.seq ?_
    refine AWp.rgn [] (by simp only [go_sem, seval, strR_len, strR_pure, List.length_append, List.take_of_length_le]; rfl) ?_ ?_
    · (first | trivial | (simp; done) | (simp [strR_rows]; done))
    refine AWp.condB (by simp only [go_sem, seval, strR_len, strR_pure, List.length_append, List.take_of_length_le]; rfl) (by simp only [go_sem, seval, strR_len, strR_pure, List.length_append, List.take_of_length_le]) (fun h24 => ?_) (fun h24 => ?_)
    · refine AWp.rgn [call0 (l12Dec_a e.n (by have := g1 (by simpa using h24); omega) (by have := g1 (by simpa using h24); omega))] (by simp only [go_sem, seval, strR_len, strR_pure, List.length_append, List.take_of_length_le]; rfl) ?_ ?_
      · (first | trivial | (simp; done) | (simp [strR_rows]; done))
      refine Exists.intro (()) ⟨?_, ?_⟩
      · trivial
      refine Can.trans (Can.swap 41 150 (by decide) (by decide) (by decide) (by decide) (by simp only [go_sem, seval, strR_len, strR_pure, List.length_append, List.take_of_length_le, V.cl]) (by simp only [go_sem, seval, strR_len, strR_pure, List.length_append, List.take_of_length_le, V.cl]) (by simp only [go_sem, seval, strR_len, strR_pure, List.length_append, List.take_of_length_le, swL_get, sw, swM, rnB] <;> rfl) (by simp only [go_sem, seval, strR_len, strR_pure, List.length_append, List.take_of_length_le, swL_get, sw, swM, rnB] <;> rfl) (by simp only [go_sem, seval, strR_len, strR_pure, List.length_append, List.take_of_length_le, swL_get, sw, swM, rnB] <;> rfl)) ?_
      exact Can.weak (Weak.lit (by simp only [go_sem, seval, strR_len, strR_pure, List.length_append, List.take_of_length_le, subM, leV, inns, innr, V.inn, us, true_or, or_true] <;> (first | (rw [wds_num (by simpa using h24)]; rfl) | (rw [wds_name (by simpa using h32)]; rfl) | (rw [hT (by simpa using h39), ← hJ]; simp; omega) | (rw [hA (by simp_all)]; simp))) (by simp only [go_sem, seval, strR_len, strR_pure, List.length_append, List.take_of_length_le, subM, leV, inns, innr, V.inn, us, true_or, or_true]) (by simp only [go_sem, seval, strR_len, strR_pure, List.length_append, List.take_of_length_le, subM, leV, inns, innr, V.inn, us, true_or, or_true] <;> (first | (rw [wds_num (by simpa using h24), itoa_dec (by have := g1 (by simpa using h24); omega)]; rfl) | (rw [wds_name (by simpa using h32)]; rfl) | (rw [hT (by simpa using h39), ← hJ]; simp [strR, rnr_pure]; done) | (rw [hA (by simp_all)]; simp [strR]))))
    · refine AWp.seq ?_
      refine AWp.rgn [] (by simp only [go_sem, seval, strR_len, strR_pure, List.length_append, List.take_of_length_le]; rfl) ?_ ?_
      · (first | trivial | (simp; done) | (simp [strR_rows]; done))
      refine AWp.condB (by simp only [go_sem, seval, strR_len, strR_pure, List.length_append, List.take_of_length_le]; rfl) (by simp only [go_sem, seval, strR_len, strR_pure, List.length_append, List.take_of_length_le]) (fun h32 => ?_) (fun h32 => ?_)
      · refine AWp.rgn [] (by simp only [go_sem, seval, strR_len, strR_pure, List.length_append, List.take_of_length_le]; rfl) ?_ ?_
        · (first | trivial | (simp; done) | (simp [strR_rows]; done))
        refine Exists.intro (()) ⟨?_, ?_⟩
        · trivial
        refine Can.trans (Can.swap 48 150 (by decide) (by decide) (by decide) (by decide) (by simp only [go_sem, seval, strR_len, strR_pure, List.length_append, List.take_of_length_le, V.cl]) (by simp only [go_sem, seval, strR_len, strR_pure, List.length_append, List.take_of_length_le, V.cl]) (by simp only [go_sem, seval, strR_len, strR_pure, List.length_append, List.take_of_length_le, swL_get, sw, swM, rnB] <;> rfl) (by simp only [go_sem, seval, strR_len, strR_pure, List.length_append, List.take_of_length_le, swL_get, sw, swM, rnB] <;> rfl) (by simp only [go_sem, seval, strR_len, strR_pure, List.length_append, List.take_of_length_le, swL_get, sw, swM, rnB] <;> rfl)) ?_
        exact Can.weak (Weak.lit (by simp only [go_sem, seval, strR_len, strR_pure, List.length_append, List.take_of_length_le, subM, leV, inns, innr, V.inn, us, true_or, or_true] <;> (first | (rw [wds_num (by simpa using h24)]; rfl) | (rw [wds_name (by simpa using h32)]; rfl) | (rw [hT (by simpa using h39), ← hJ]; simp; omega) | (rw [hA (by simp_all)]; simp))) (by simp only [go_sem, seval, strR_len, strR_pure, List.length_append, List.take_of_length_le, subM, leV, inns, innr, V.inn, us, true_or, or_true]) (by simp only [go_sem, seval, strR_len, strR_pure, List.length_append, List.take_of_length_le, subM, leV, inns, innr, V.inn, us, true_or, or_true] <;> (first | (rw [wds_num (by simpa using h24), itoa_dec (by have := g1 (by simpa using h24); omega)]; rfl) | (rw [wds_name (by simpa using h32)]; rfl) | (rw [hT (by simpa using h39), ← hJ]; simp [strR, rnr_pure]; done) | (rw [hA (by simp_all)]; simp [strR]))))
      · refine AWp.seq ?_
        refine AWp.rgn [] (by simp only [go_sem, seval, strR_len, strR_pure, List.length_append, List.take_of_length_le]; rfl) ?_ ?_
        · (first | trivial | (simp; done) | (simp [strR_rows]; done))
        refine AWp.condB (by simp only [go_sem, seval, strR_len, strR_pure, List.length_append, List.take_of_length_le]; rfl) (by simp only [go_sem, seval, strR_len, strR_pure, List.length_append, List.take_of_length_le]) (fun h39 => ?_) (fun h39 => ?_)
        · refine AWp.seq ?_
          refine AWp.rgn [] (by simp only [go_sem, seval, strR_len, strR_pure, List.length_append, List.take_of_length_le]; rfl) ?_ ?_
          · (first | trivial | (simp; done) | (simp [strR_rows]; done))
          refine AWp.seqJ (fun lf : Int => ⟨[.no, .i .i64 t, .pt 12 4 0 0, .no, .no, .sl true [], .i .i64 (lvl e), .i .i64 lf, .no, .no, .no, .no, .no, .no, .no, .no, .no, .no, .no, .no, .no, .no, .no, .no, .no, .no, .no, .no, .no, .no, .no, .no, .no, .no, .no, .no, .no, .no, .no, .no, .no, .no, .no, .no, .no, .no, .no, .no, .no, .no, .no, .no, .no, .no, .no, .no, .no, .no, .no, .no, .no, .no, .no, .no, .no, .no, .no, .no, .no, .no, .no, .no, .no], memOf [(12, ⟨30, 4, [eC e]⟩)], us [12]⟩) (fun lf : Int => lf = if lvl e = 1 then 2 else lvl e) ?_ (fun lf hJ => ?_)
          · refine AWp.seq ?_
            refine AWp.rgn [] (by simp only [go_sem, seval, strR_len, strR_pure, List.length_append, List.take_of_length_le]; rfl) ?_ ?_
            · (first | trivial | (simp; done) | (simp [strR_rows]; done))
            refine AWp.condB (by simp only [go_sem, seval, strR_len, strR_pure, List.length_append, List.take_of_length_le]; rfl) (by simp only [go_sem, seval, strR_len, strR_pure, List.length_append, List.take_of_length_le]) (fun h43 => ?_) (fun h43 => ?_)
            · refine AWp.rgn [] (by simp only [go_sem, seval, strR_len, strR_pure, List.length_append, List.take_of_length_le]; rfl) ?_ ?_
              · (first | trivial | (simp; done) | (simp [strR_rows]; done))
              refine Exists.intro (2) ⟨?_, ?_⟩
              · simp_all
              exact Can.weak (Weak.lit (by simp only [go_sem, seval, strR_len, strR_pure, List.length_append, List.take_of_length_le, subM, leV, inns, innr, V.inn, us, true_or, or_true] <;> (simp_all)) (by simp only [go_sem, seval, strR_len, strR_pure, List.length_append, List.take_of_length_le, subM, leV, inns, innr, V.inn, us, true_or, or_true]) (by simp only [go_sem, seval, strR_len, strR_pure, List.length_append, List.take_of_length_le, subM, leV, inns, innr, V.inn, us, true_or, or_true]))
            · refine AWp.skip ?_
              refine Exists.intro (lvl e) ⟨?_, ?_⟩
              · simp_all
              exact Can.weak (Weak.lit (by simp only [go_sem, seval, strR_len, strR_pure, List.length_append, List.take_of_length_le, subM, leV, inns, innr, V.inn, us, true_or, or_true] <;> (simp_all)) (by simp only [go_sem, seval, strR_len, strR_pure, List.length_append, List.take_of_length_le, subM, leV, inns, innr, V.inn, us, true_or, or_true]) (by simp only [go_sem, seval, strR_len, strR_pure, List.length_append, List.take_of_length_le, subM, leV, inns, innr, V.inn, us, true_or, or_true]))
          refine AWp.rgnD [call0 (ih (e.kids.getD 0 E0) lf (g3 (by simpa using h39)).2.2.2.1 (sms_mem a3 _ (getD_mem (by have := g3 (by simpa using h39); omega))) (g3 (by simpa using h39)).2.2.2.2.2.1 (by have := g3 (by simpa using h39); rw [hJ]; split <;> omega) (by have := g3 (by simpa using h39); rw [hJ]; split <;> omega)), call0 (ih (e.kids.getD 1 E0) (lvl e + 1) (g3 (by simpa using h39)).2.2.2.2.1 (sms_mem a3 _ (getD_mem (by have := g3 (by simpa using h39); omega))) (g3 (by simpa using h39)).2.2.2.2.2.2.1 (by have := g3 (by simpa using h39); omega) (by have := g3 (by simpa using h39); omega))] enM (by simp only [go_sem, seval, strR_len, strR_pure, List.length_append, List.take_of_length_le, eR_get (show 0 < e.kids.length by have := g3 (by simpa using h39); omega), eR_get (show 1 < e.kids.length by have := g3 (by simpa using h39); omega), wrap64 (show -9223372036854775808 ≤ lvl e + 1 by have := g3 (by simpa using h39); omega) (by have := g3 (by simpa using h39); omega)]; rfl) (by rfl) ?_ ?_
          · have q := g3 (by simpa using h39); have q1 := hL 0 (by omega) lf; have q2 : 1 < e.kids.length := (by omega); have q3 := hL 1 (by omega) (lvl e + 1); simp [-List.getD_eq_getElem?_getD, fsOk, q2, strR_rows]; omega
          refine Exists.intro (()) ⟨?_, ?_⟩
          · trivial
          refine Can.trans (Can.swap 73 150 (by decide) (by decide) (by decide) (by decide) (by simp only [go_sem, seval, strR_len, strR_pure, List.length_append, List.take_of_length_le, V.cl]) (by simp only [go_sem, seval, strR_len, strR_pure, List.length_append, List.take_of_length_le, V.cl]) (by simp only [go_sem, seval, strR_len, strR_pure, List.length_append, List.take_of_length_le, swL_get, sw, swM, rnB] <;> rfl) (by simp only [go_sem, seval, strR_len, strR_pure, List.length_append, List.take_of_length_le, swL_get, sw, swM, rnB] <;> rfl) (by simp only [go_sem, seval, strR_len, strR_pure, List.length_append, List.take_of_length_le, swL_get, sw, swM, rnB] <;> rfl)) ?_
          exact Can.weak (Weak.lit (by simp only [go_sem, seval, strR_len, strR_pure, List.length_append, List.take_of_length_le, subM, leV, inns, innr, V.inn, us, true_or, or_true] <;> (first | (rw [wds_num (by simpa using h24)]; rfl) | (rw [wds_name (by simpa using h32)]; rfl) | (rw [hT (by simpa using h39), ← hJ]; simp; omega) | (rw [hA (by simp_all)]; simp))) (by simp only [go_sem, seval, strR_len, strR_pure, List.length_append, List.take_of_length_le, subM, leV, inns, innr, V.inn, us, true_or, or_true]) (by simp only [go_sem, seval, strR_len, strR_pure, List.length_append, List.take_of_length_le, subM, leV, inns, innr, V.inn, us, true_or, or_true] <;> (first | (rw [wds_num (by simpa using h24), itoa_dec (by have := g1 (by simpa using h24); omega)]; rfl) | (rw [wds_name (by simpa using h32)]; rfl) | (rw [hT (by simpa using h39), ← hJ]; simp [strR, rnr_pure]; done) | (rw [hA (by simp_all)]; simp [strR]))))
        · refine AWp.rgnD [call0 (ih (e.kids.getD 0 E0) 4 (g4 (by simp_all)).2.1 (sms_mem a3 _ (getD_mem (by have := g4 (by simp_all); omega))) (g4 (by simp_all)).2.2 (by decide) (by decide))] enM (by simp only [go_sem, seval, strR_len, strR_pure, List.length_append, List.take_of_length_le, eR_get (show 0 < e.kids.length by have := g4 (by simp_all); omega)]; rfl) (by rfl) ?_ ?_
          · have q := g4 (by simp_all); have q1 := hL 0 (by omega) 4; have q2 : 0 < e.kids.length := (by omega); simp [-List.getD_eq_getElem?_getD, fsOk, q2, strR_rows]; omega
          refine Exists.intro (()) ⟨?_, ?_⟩
          · trivial
          refine Can.trans (Can.swap 33 150 (by decide) (by decide) (by decide) (by decide) (by simp only [go_sem, seval, strR_len, strR_pure, List.length_append, List.take_of_length_le, V.cl]) (by simp only [go_sem, seval, strR_len, strR_pure, List.length_append, List.take_of_length_le, V.cl]) (by simp only [go_sem, seval, strR_len, strR_pure, List.length_append, List.take_of_length_le, swL_get, sw, swM, rnB] <;> rfl) (by simp only [go_sem, seval, strR_len, strR_pure, List.length_append, List.take_of_length_le, swL_get, sw, swM, rnB] <;> rfl) (by simp only [go_sem, seval, strR_len, strR_pure, List.length_append, List.take_of_length_le, swL_get, sw, swM, rnB] <;> rfl)) ?_
          exact Can.weak (Weak.lit (by simp only [go_sem, seval, strR_len, strR_pure, List.length_append, List.take_of_length_le, subM, leV, inns, innr, V.inn, us, true_or, or_true] <;> (first | (rw [wds_num (by simpa using h24)]; rfl) | (rw [wds_name (by simpa using h32)]; rfl) | (rw [hT (by simpa using h39), ← hJ]; simp; omega) | (rw [hA (by simp_all)]; simp))) (by simp only [go_sem, seval, strR_len, strR_pure, List.length_append, List.take_of_length_le, subM, leV, inns, innr, V.inn, us, true_or, or_true]) (by simp only [go_sem, seval, strR_len, strR_pure, List.length_append, List.take_of_length_le, subM, leV, inns, innr, V.inn, us, true_or, or_true] <;> (first | (rw [wds_num (by simpa using h24), itoa_dec (by have := g1 (by simpa using h24); omega)]; rfl) | (rw [wds_name (by simpa using h32)]; rfl) | (rw [hT (by simpa using h39), ← hJ]; simp [strR, rnr_pure]; done) | (rw [hA (by simp_all)]; simp [strR]))))
  refine AWp.seq ?_
  refine AWp.seq ?_
  refine AWp.rgn [] (by simp only [go_sem, seval, strR_len, strR_pure, List.length_append, List.take_of_length_le]; rfl) ?_ ?_
  · (first | trivial | (simp; done) | (simp [strR_rows]; done))
  refine AWp.condB (by simp only [go_sem, seval, strR_len, strR_pure, List.length_append, List.take_of_length_le]; rfl) (by simp only [go_sem, seval, strR_len, strR_pure, List.length_append, List.take_of_length_le]) (fun h66 => ?_) (fun h66 => ?_)
  · refine AWp.seq ?_
    refine AWp.rgn [] (by simp only [go_sem, seval, strR_len, strR_pure, List.length_append, List.take_of_length_le]; rfl) ?_ ?_
    · have q := hW 0; simp [-List.getD_eq_getElem?_getD, fsOk, strR_rows, strR_nil']; (first | omega | (refine ⟨⟨?_, by omega⟩, by omega, by omega⟩; intro e0; have := (wds_le (d + 1) e 0 h).1; rw [e0] at this; simp at this))
    refine AWp.frz 81 (by simp only [go_sem, seval, strR_len, strR_pure, List.length_append, List.take_of_length_le]; rfl) (by simp only [go_sem, seval, strR_len, strR_pure, List.length_append, List.take_of_length_le]) (by simp only [go_sem, seval, strR_len, strR_pure, List.length_append, List.take_of_length_le]; rfl) (by simp only [go_sem, seval, strR_len, strR_pure, List.length_append, List.take_of_length_le]; rfl) ?_
    refine AWp.ret (And.intro (.inr rfl) ?_)
    exact Out.plain (by simp only [Tryz.results153]; rfl) (by simp only [resCs, resC, go_sem, seval, strR_len, strR_pure, List.length_append, List.take_of_length_le] <;> (split <;> rfl)) (by simp only [resV, go_sem, seval, strR_len, strR_pure, List.length_append, List.take_of_length_le] <;> (have q : e.kind = 3 ∧ tight e.s < t := (by rw [← lev_form h t ht]; simpa using h66); rw [wds_brk0 h t, if_pos q]; (first | (rw [if_pos (by omega), List.take_of_length_le (by simp [strR]; omega)]; simp [strR, peel])))) (by simp only [go_sem, seval, strR_len, strR_pure, List.length_append, List.take_of_length_le])
  · refine AWp.skip ?_
    refine AWp.seq ?_
    refine AWp.rgn [] (by simp only [go_sem, seval, strR_len, strR_pure, List.length_append, List.take_of_length_le]; rfl) ?_ ?_
    · (first | trivial | (simp; done) | (simp [strR_rows]; done))
    refine AWp.frz 150 (by simp only [go_sem, seval, strR_len, strR_pure, List.length_append, List.take_of_length_le]; rfl) (by simp only [go_sem, seval, strR_len, strR_pure, List.length_append, List.take_of_length_le]) (by simp only [go_sem, seval, strR_len, strR_pure, List.length_append, List.take_of_length_le]; rfl) (by simp only [go_sem, seval, strR_len, strR_pure, List.length_append, List.take_of_length_le]; rfl) ?_
    refine AWp.ret (And.intro (.inr rfl) ?_)
    exact Out.plain (by simp only [Tryz.results153]; rfl) (by simp only [resCs, resC, go_sem, seval, strR_len, strR_pure, List.length_append, List.take_of_length_le] <;> (split <;> rfl)) (by simp only [resV, go_sem, seval, strR_len, strR_pure, List.length_append, List.take_of_length_le] <;> (have q : ¬ (e.kind = 3 ∧ tight e.s < t) := (by rw [← lev_form h t ht]; simpa using h66); rw [wds_brk0 h t, if_neg q])) (by simp only [go_sem, seval, strR_len, strR_pure, List.length_append, List.take_of_length_le])
end

section
set_option maxRecDepth 100000
set_option maxHeartbeats 1000000

theorem wds_ne {e : E} (h : eok e = true) (must : Int) : wds e must ≠ [] := fun e0 => by have := (eok_wds h must).1; rw [e0] at this; simp at this
theorem l7Words_a (b : Bl) (h : bok0 b = true) (hs : smb b = true) : ACall En 111 [.ag (bC b)] [] [.sl false (strR (bw b))] [] := by
  obtain ⟨h0, h1, h2⟩ := bok0_open h
  obtain ⟨s1, s2, s3⟩ := smb_open hs
  have W : b.kind = 1 ∨ b.kind = 2 ∨ b.kind = 3 → _ := fun hk => l4Words_a 5 b.expr 1 (eok_form (h1 hk)) s2 (many_5 (h1 hk)) (by decide) (by decide)
  have W3 : b.kind = 3 → _ := fun hk => l4Words_a 5 b.thn 1 (eok_form (h2 hk)) s3 (many_5 (h2 hk)) (by decide) (by decide)
  refine acall_of_body (fn := Tryz.f111) [] Tryz.func111 rfl rfl (by simp) fun C => ?_
  rw [entry_eq]
  simp only [Tryz.ntmps111, List.length_cons, List.length_nil, Nat.reduceAdd, Nat.reduceSub, List.replicate_succ, List.replicate_zero, List.cons_append, List.nil_append, numL]
  refine AWp.seq ?_
  refine AWp.rgn [] (by simp only [go_sem, seval, strR_len, strR_pure, List.length_append, List.take_of_length_le, bC_eq]; rfl) ?_ ?_
  · (first | trivial | (simp; done) | (simp [strR_rows]; done))
  refine AWp.seq ?_
  refine AWp.seq ?_
  refine AWp.rgn [] (by simp only [go_sem, seval, strR_len, strR_pure, List.length_append, List.take_of_length_le, bC_eq]; rfl) ?_ ?_
  · (first | trivial | (simp; done) | (simp [strR_rows]; done))
  refine AWp.block ?_
  refine AWp.seq ?_
  refine AWp.rgn [] (by simp only [go_sem, seval, strR_len, strR_pure, List.length_append, List.take_of_length_le, bC_eq]; rfl) ?_ ?_
  · (first | trivial | (simp; done) | (simp [strR_rows]; done))
  refine AWp.condB (by simp only [go_sem, seval, strR_len, strR_pure, List.length_append, List.take_of_length_le, bC_eq]; rfl) (by simp only [go_sem, seval, strR_len, strR_pure, List.length_append, List.take_of_length_le, bC_eq]) (fun h6 => ?_) (fun h6 => ?_)
  · refine AWp.seq ?_
    refine AWp.rgnD [call0 (W (.inl (by simpa using h6)))] enM (by simp only [go_sem, seval, strR_len, strR_pure, List.length_append, List.take_of_length_le, bC_eq]; rfl) (by rfl) ?_ ?_
    · have q := h1 (.inl (by simpa using h6)); have q2 := (eok_wds q 1); have q3 := wds_ne q 1; simp [fsOk, strR_rows, q3, strR_nil']; omega
    refine AWp.frz 24 (by simp only [go_sem, seval, strR_len, strR_pure, List.length_append, List.take_of_length_le, bC_eq]; rfl) (by simp only [go_sem, seval, strR_len, strR_pure, List.length_append, List.take_of_length_le, bC_eq]) (by simp only [go_sem, seval, strR_len, strR_pure, List.length_append, List.take_of_length_le, bC_eq]; rfl) (by simp only [go_sem, seval, strR_len, strR_pure, List.length_append, List.take_of_length_le, bC_eq]; rfl) ?_
    refine AWp.ret (And.intro (.inr rfl) ?_)
    exact Out.plain (by simp only [Tryz.results111]; rfl) (by simp only [resCs, resC, go_sem, seval, strR_len, strR_pure, List.length_append, List.take_of_length_le, bC_eq] <;> (split <;> rfl)) (by simp only [resV, go_sem, seval, strR_len, strR_pure, List.length_append, List.take_of_length_le, bC_eq] <;> (have k : b.kind = 1 := (by simpa using h6); rw [if_pos (by omega), List.take_of_length_le (by simp [strR_len]; omega)]; simp [bw, k, strR, peel, wEq])) (by simp only [go_sem, seval, strR_len, strR_pure, List.length_append, List.take_of_length_le, bC_eq])
  · refine AWp.seq ?_
    refine AWp.rgn [] (by simp only [go_sem, seval, strR_len, strR_pure, List.length_append, List.take_of_length_le, bC_eq]; rfl) ?_ ?_
    · (first | trivial | (simp; done) | (simp [strR_rows]; done))
    refine AWp.condB (by simp only [go_sem, seval, strR_len, strR_pure, List.length_append, List.take_of_length_le, bC_eq]; rfl) (by simp only [go_sem, seval, strR_len, strR_pure, List.length_append, List.take_of_length_le, bC_eq]) (fun h15 => ?_) (fun h15 => ?_)
    · refine AWp.seq ?_
      refine AWp.rgn [call0 (W (.inr (.inl (by simpa using h15))))] (by simp only [go_sem, seval, strR_len, strR_pure, List.length_append, List.take_of_length_le, bC_eq]; rfl) ?_ ?_
      · have q := h1 (.inr (.inl (by simpa using h15))); have q2 := (eok_wds q 1); have q3 := wds_ne q 1; simp [fsOk, strR_rows, q3, strR_nil']; omega
      refine AWp.frz 31 (by simp only [go_sem, seval, strR_len, strR_pure, List.length_append, List.take_of_length_le, bC_eq]; rfl) (by simp only [go_sem, seval, strR_len, strR_pure, List.length_append, List.take_of_length_le, bC_eq]) (by simp only [go_sem, seval, strR_len, strR_pure, List.length_append, List.take_of_length_le, bC_eq]; rfl) (by simp only [go_sem, seval, strR_len, strR_pure, List.length_append, List.take_of_length_le, bC_eq]; rfl) ?_
      refine AWp.ret (And.intro (.inr rfl) ?_)
      exact Out.plain (by simp only [Tryz.results111]; rfl) (by simp only [resCs, resC, go_sem, seval, strR_len, strR_pure, List.length_append, List.take_of_length_le, bC_eq] <;> (split <;> rfl)) (by simp only [resV, go_sem, seval, strR_len, strR_pure, List.length_append, List.take_of_length_le, bC_eq] <;> (have k : b.kind = 2 := (by simpa using h15); rw [if_pos (by omega), List.take_of_length_le (by simp [strR_len]; omega)]; simp [bw, k, strR, peel, wPrint])) (by simp only [go_sem, seval, strR_len, strR_pure, List.length_append, List.take_of_length_le, bC_eq])
    · refine AWp.seq ?_
      refine AWp.rgn [] (by simp only [go_sem, seval, strR_len, strR_pure, List.length_append, List.take_of_length_le, bC_eq]; rfl) ?_ ?_
      · (first | trivial | (simp; done) | (simp [strR_rows]; done))
      refine AWp.condB (by simp only [go_sem, seval, strR_len, strR_pure, List.length_append, List.take_of_length_le, bC_eq]; rfl) (by simp only [go_sem, seval, strR_len, strR_pure, List.length_append, List.take_of_length_le, bC_eq]) (fun h22 => ?_) (fun h22 => ?_)
      · refine AWp.seq ?_
        refine AWp.rgn [call0 (W (.inr (.inr (by simpa using h22))))] (by simp only [go_sem, seval, strR_len, strR_pure, List.length_append, List.take_of_length_le, bC_eq]; rfl) ?_ ?_
        · have q := h1 (.inr (.inr (by simpa using h22))); have q2 := (eok_wds q 1); have q3 := wds_ne q 1; simp [fsOk, strR_rows, q3, strR_nil']; omega
        refine AWp.seq ?_
        refine AWp.rgnD [call0 (W3 (by simpa using h22))] enM (by simp only [go_sem, seval, strR_len, strR_pure, List.length_append, List.take_of_length_le, bC_eq]; rfl) (by rfl) ?_ ?_
        · have q := h1 (.inr (.inr (by simpa using h22))); have q2 := (eok_wds q 1); have q4 := eok_wds (h2 (by simpa using h22)) 1; simp [fsOk, strR_rows]; omega
        refine AWp.frz 45 (by simp only [go_sem, seval, strR_len, strR_pure, List.length_append, List.take_of_length_le, bC_eq]; rfl) (by simp only [go_sem, seval, strR_len, strR_pure, List.length_append, List.take_of_length_le, bC_eq]) (by simp only [go_sem, seval, strR_len, strR_pure, List.length_append, List.take_of_length_le, bC_eq]; rfl) (by simp only [go_sem, seval, strR_len, strR_pure, List.length_append, List.take_of_length_le, bC_eq]; rfl) ?_
        refine AWp.ret (And.intro (.inr rfl) ?_)
        exact Out.plain (by simp only [Tryz.results111]; rfl) (by simp only [resCs, resC, go_sem, seval, strR_len, strR_pure, List.length_append, List.take_of_length_le, bC_eq] <;> (split <;> rfl)) (by simp only [resV, go_sem, seval, strR_len, strR_pure, List.length_append, List.take_of_length_le, bC_eq] <;> (have k : b.kind = 3 := (by simpa using h22); rw [if_pos (by omega), List.take_of_length_le (by simp [strR_len]; omega)]; simp [bw, k, strR, peel, wPrint, wIf, wCol])) (by simp only [go_sem, seval, strR_len, strR_pure, List.length_append, List.take_of_length_le, bC_eq])
      · refine AWp.skip ?_
        refine AWp.seq ?_
        refine AWp.rgn [] (by simp only [go_sem, seval, strR_len, strR_pure, List.length_append, List.take_of_length_le, bC_eq]; rfl) ?_ ?_
        · (first | trivial | (simp; done) | (simp [strR_rows]; done))
        refine AWp.can (Can.slotLe 2 (.sl false []) (by simp only [go_sem, seval, strR_len, strR_pure, List.length_append, List.take_of_length_le, bC_eq] <;> trivial) (by simp only [go_sem, seval, strR_len, strR_pure, List.length_append, List.take_of_length_le, bC_eq] <;> rfl)) ?_
        refine AWp.ret (And.intro (.inr rfl) ?_)
        exact Out.plain (by simp only [Tryz.results111]; rfl) (by simp only [resCs, resC, go_sem, seval, strR_len, strR_pure, List.length_append, List.take_of_length_le, bC_eq] <;> (split <;> rfl)) (by simp only [resV, go_sem, seval, strR_len, strR_pure, List.length_append, List.take_of_length_le, bC_eq] <;> (have k : b.kind = 0 := (by simp_all); simp [bw, k, strR])) (by simp only [go_sem, seval, strR_len, strR_pure, List.length_append, List.take_of_length_le, bC_eq])
theorem tok_take {l : List Str} {k : Nat} (h : k < l.length) : tokText (l.take (k + 1)) = (if 0 < k then tokText (l.take k) ++ [32] else []) ++ l.getD k [] := by
  have snoc : ∀ (a : List Str) (s : Str), a ≠ [] → tokText (a ++ [s]) = tokText a ++ 32 :: s := fun a s ha => by
    induction a with
    | nil => exact absurd rfl ha
    | cons x a ih =>
      cases a with
      | nil => rw [tokText_one]; show tokText [x, s] = _; rw [tokText_cons, tokText_one]
      | cons y a => rw [List.cons_append, List.cons_append, tokText_cons, tokText_cons, ← List.cons_append, ih (by simp)]; simp
  rw [List.take_add_one, List.getElem?_eq_getElem h, List.getD_eq_getElem?_getD, List.getElem?_eq_getElem h]
  simp only [Option.toList_some, Option.getD_some]
  by_cases hk : 0 < k
  · rw [snoc _ _ (by intro e; have := congrArg List.length e; rw [List.length_take] at this; simp only [List.length_nil] at this; omega), if_pos hk]; simp
  · have : k = 0 := by omega
    subst this; simp [tokText_one]
theorem tok_sub {l : List Str} (k : Nat) : (tokText (l.take k)).length ≤ (tokText l).length := by
  by_cases h : l.take k = []
  · rw [h]; simp [tokText_nil]
  · have h1 := tokText_len _ h
    have h2 : l ≠ [] := fun e => h (by rw [e]; simp)
    have h3 := tokText_len _ h2
    have h4 : ((l.take k).map List.length).sum + (l.take k).length ≤ (l.map List.length).sum + l.length := by
      conv => rhs; rw [← List.take_append_drop k l]
      rw [List.map_append, List.sum_append, List.length_append]; omega
    omega
theorem sTokText_a (l : List Str) (hl : l.length < 1099511627776) (hb : (tokText l).length < 1099511627776) : ACall En 85 [.sl false (strR l)] [] [.s (tokText l)] [] := by
  refine acall_of_body (fn := Tryz.f85) [] Tryz.func85 rfl rfl (by simp) fun C => ?_
  rw [entry_eq]
  simp only [Tryz.ntmps85, List.length_cons, List.length_nil, Nat.reduceAdd, Nat.reduceSub, List.replicate_succ, List.replicate_zero, List.cons_append, List.nil_append, numL]
  refine AWp.seq ?_
  refine AWp.rgn [] (by simp only [go_sem, seval, strR_len, strR_pure]; rfl) ?_ ?_
  · (first | trivial | (simp; done))
  refine AWp.seq ?_
  refine AWp.rgn [] (by simp only [go_sem, seval, strR_len, strR_pure]; rfl) ?_ ?_
  · (first | trivial | (simp; done))
  refine AWp.seq ?_
  refine AWp.seq ?_
  refine AWp.rgn [] (by simp only [go_sem, seval, strR_len, strR_pure]; rfl) ?_ ?_
  · (first | trivial | (simp; done))
  refine AWp.block ?_
  refine AWp.loopK (fun k : Nat => ⟨[.sl false (strR l), .no, .no, .s (tokText (l.take k)), .i .i64 k, .no, .no, .no, .no, .no, .no, .no, .no, .no, .no, .no, .no, .no, .no, .no, .no, .no], memOf [], us []⟩) (fun k : Nat => k ≤ l.length) (fun k : Nat => l.length - k) (0) ?_ ?_ (fun k hI => ?_)
  · simp
  · exact Can.weak (Weak.lit (by simp only [go_sem, seval, strR_len, strR_pure, subM, leV, inns, innr, V.inn, us, true_or, or_true] <;> (simp [tokText_nil])) (by simp only [go_sem, seval, strR_len, strR_pure, subM, leV, inns, innr, V.inn, us, true_or, or_true]) (by simp only [go_sem, seval, strR_len, strR_pure, subM, leV, inns, innr, V.inn, us, true_or, or_true]))
  refine AWp.seq ?_
  refine AWp.seq ?_
  refine AWp.rgn [] (by simp only [go_sem, seval, strR_len, strR_pure]; rfl) ?_ ?_
  · (first | trivial | (simp; done))
  refine AWp.condB (by simp only [go_sem, seval, strR_len, strR_pure]; rfl) (by simp only [go_sem, seval, strR_len, strR_pure]) (fun h8 => ?_) (fun h8 => ?_)
  · refine AWp.skip ?_
    refine AWp.seq ?_
    refine AWp.block ?_
    refine AWp.seqJ (fun q : Str => ⟨[.sl false (strR l), .no, .no, .s q, .i .i64 k, .no, .no, .no, .no, .no, .no, .no, .no, .no, .no, .no, .no, .no, .no, .no, .no, .no], memOf [], us []⟩) (fun q : Str => q = if 0 < k then tokText (l.take k) ++ [32] else []) ?_ (fun q hJ => ?_)
    · refine AWp.seq ?_
      refine AWp.rgn [] (by simp only [go_sem, seval, strR_len, strR_pure]; rfl) ?_ ?_
      · (first | trivial | (simp; done))
      refine AWp.condB (by simp only [go_sem, seval, strR_len, strR_pure]; rfl) (by simp only [go_sem, seval, strR_len, strR_pure]) (fun h12 => ?_) (fun h12 => ?_)
      · refine AWp.rgn [] (by simp only [go_sem, seval, strR_len, strR_pure]; rfl) ?_ ?_
        · have q := tok_sub (l := l) k; simp; omega
        refine Exists.intro (tokText (l.take k) ++ [32]) ⟨?_, ?_⟩
        · simp at h12; simp [h12]
        exact Can.weak (Weak.lit (by simp only [go_sem, seval, strR_len, strR_pure, subM, leV, inns, innr, V.inn, us, true_or, or_true] <;> ((simp at h12; subst h12; simp [tokText_nil]))) (by simp only [go_sem, seval, strR_len, strR_pure, subM, leV, inns, innr, V.inn, us, true_or, or_true]) (by simp only [go_sem, seval, strR_len, strR_pure, subM, leV, inns, innr, V.inn, us, true_or, or_true]))
      · refine AWp.skip ?_
        refine Exists.intro ([]) ⟨?_, ?_⟩
        · simp at h12; simp [h12]
        exact Can.weak (Weak.lit (by simp only [go_sem, seval, strR_len, strR_pure, subM, leV, inns, innr, V.inn, us, true_or, or_true] <;> ((simp at h12; subst h12; simp [tokText_nil]))) (by simp only [go_sem, seval, strR_len, strR_pure, subM, leV, inns, innr, V.inn, us, true_or, or_true]) (by simp only [go_sem, seval, strR_len, strR_pure, subM, leV, inns, innr, V.inn, us, true_or, or_true]))
    refine AWp.rgn [] (by simp only [go_sem, seval, strR_len, strR_pure, strR_get (show k < l.length by simpa using h8)]; rfl) ?_ ?_
    · have q1 := tok_sub (l := l) (k + 1); rw [tok_take (by simpa using h8), ← hJ, List.length_append] at q1; refine ⟨⟨by omega, by simpa using h8⟩, by omega⟩
    refine AWp.rgn [] (by simp only [go_sem, seval, strR_len, strR_pure]; rfl) ?_ ?_
    · (first | trivial | (simp; done))
    refine Exists.intro (k + 1) ⟨?_, ?_, ?_⟩
    · simp at h8; omega
    · simp at h8; omega
    exact Can.weak (Weak.lit (by simp only [go_sem, seval, strR_len, strR_pure, subM, leV, inns, innr, V.inn, us, true_or, or_true] <;> (rw [wrap64 (by simp at h8; omega) (by simp at h8; omega)]; refine ⟨?_, by simp⟩; first | (rw [hJ, tok_take (by simpa using h8)]; done))) (by simp only [go_sem, seval, strR_len, strR_pure, subM, leV, inns, innr, V.inn, us, true_or, or_true]) (by simp only [go_sem, seval, strR_len, strR_pure, subM, leV, inns, innr, V.inn, us, true_or, or_true]))
  · refine AWp.exit ?_
    refine AWp.seq ?_
    refine AWp.rgn [] (by simp only [go_sem, seval, strR_len, strR_pure]; rfl) ?_ ?_
    · (first | trivial | (simp; done))
    refine AWp.ret (And.intro (.inr rfl) ?_)
    exact Out.plain (by simp only [Tryz.results85]; rfl) (by simp only [resCs, resC, go_sem, seval, strR_len, strR_pure] <;> (split <;> rfl)) (by simp only [resV, go_sem, seval, strR_len, strR_pure] <;> (simp at h8; rw [List.take_of_length_le h8])) (by simp only [go_sem, seval, strR_len, strR_pure])
theorem sBareOk_a (b : Bl) (hs : smb b = true) : ACall En 44 [.ag (bC b)] [] [.b (bok b)] [] := by
  obtain ⟨s1, s2, s3⟩ := smb_open hs
  refine acall_of_body (fn := Tryz.f44) [] Tryz.func44 rfl rfl (by simp) fun C => ?_
  rw [entry_eq]
  simp only [Tryz.ntmps44, List.length_cons, List.length_nil, Nat.reduceAdd, Nat.reduceSub, List.replicate_succ, List.replicate_zero, List.cons_append, List.nil_append, numL]
  refine AWp.seq ?_
  refine AWp.rgn [] (by simp only [go_sem, seval, bC_eq, strR_pure]; rfl) ?_ ?_
  · (first | trivial | (simp; done) | exact hJ.symm | exact ⟨hJ.symm, hJ.symm⟩)
  refine AWp.seq ?_
  refine AWp.rgn [] (by simp only [go_sem, seval, bC_eq, strR_pure]; rfl) ?_ ?_
  · (first | trivial | (simp; done) | exact hJ.symm | exact ⟨hJ.symm, hJ.symm⟩)
  refine AWp.seqJ (fun q : Bool => ⟨[.no, .pt 11 10 0 0, .no, .b q, .no, .no, .no, .no, .no, .no, .no, .no, .no, .no, .no, .no, .no, .no, .no, .no, .no, .no, .no, .no, .no, .no, .no, .no, .no, .no, .no, .no, .no, .no, .no, .no, .no, .no, .no, .no, .no, .no, .no, .no, .no, .no, .no, .no, .no, .no, .no, .no, .no, .no, .no, .no, .no, .no, .no, .no, .no, .no, .no, .no, .no, .no, .no, .no, .no, .no, .no, .no, .no, .no], memOf [(11, ⟨64, 10, [bC b]⟩)], us [11]⟩) (fun q : Bool => q = bok0 b) ?_ (fun q hJ => ?_)
  · refine AWp.seq ?_
    refine AWp.rgn [] (by simp only [go_sem, seval, bC_eq, strR_pure]; rfl) ?_ ?_
    · (first | trivial | (simp; done) | exact hJ.symm | exact ⟨hJ.symm, hJ.symm⟩)
    refine AWp.block ?_
    refine AWp.seq ?_
    refine AWp.rgn [] (by simp only [go_sem, seval, bC_eq, strR_pure]; rfl) ?_ ?_
    · (first | trivial | (simp; done) | exact hJ.symm | exact ⟨hJ.symm, hJ.symm⟩)
    refine AWp.condB (by simp only [go_sem, seval, bC_eq, strR_pure]; rfl) (by simp only [go_sem, seval, bC_eq, strR_pure]) (fun h6 => ?_) (fun h6 => ?_)
    · refine AWp.rgn [call0 (l5None_a b.expr s2), call0 (l5None_a b.thn s3)] (by simp only [go_sem, seval, bC_eq, strR_pure]; rfl) ?_ ?_
      · (first | trivial | (simp; done) | exact hJ.symm | exact ⟨hJ.symm, hJ.symm⟩)
      refine Exists.intro (bok0 b) ⟨?_, ?_⟩
      · rfl
      exact Can.weak (Weak.lit (by simp only [go_sem, seval, bC_eq, strR_pure, subM, leV, inns, innr, V.inn, us, true_or, or_true] <;> ((unfold bok0; simp_all))) (by simp only [go_sem, seval, bC_eq, strR_pure, subM, leV, inns, innr, V.inn, us, true_or, or_true]) (by simp only [go_sem, seval, bC_eq, strR_pure, subM, leV, inns, innr, V.inn, us, true_or, or_true]))
    · refine AWp.seq ?_
      refine AWp.rgn [] (by simp only [go_sem, seval, bC_eq, strR_pure]; rfl) ?_ ?_
      · (first | trivial | (simp; done) | exact hJ.symm | exact ⟨hJ.symm, hJ.symm⟩)
      refine AWp.condB (by simp only [go_sem, seval, bC_eq, strR_pure]; rfl) (by simp only [go_sem, seval, bC_eq, strR_pure]) (fun h21 => ?_) (fun h21 => ?_)
      · refine AWp.rgn [call0 (l4Name_a b.name s1), call0 (l7Expr_a b.expr s2), call0 (l5None_a b.thn s3)] (by simp only [go_sem, seval, bC_eq, strR_pure]; rfl) ?_ ?_
        · (first | trivial | (simp; done) | exact hJ.symm | exact ⟨hJ.symm, hJ.symm⟩)
        refine Exists.intro (bok0 b) ⟨?_, ?_⟩
        · rfl
        exact Can.weak (Weak.lit (by simp only [go_sem, seval, bC_eq, strR_pure, subM, leV, inns, innr, V.inn, us, true_or, or_true] <;> ((unfold bok0; simp_all))) (by simp only [go_sem, seval, bC_eq, strR_pure, subM, leV, inns, innr, V.inn, us, true_or, or_true]) (by simp only [go_sem, seval, bC_eq, strR_pure, subM, leV, inns, innr, V.inn, us, true_or, or_true]))
      · refine AWp.seq ?_
        refine AWp.rgn [] (by simp only [go_sem, seval, bC_eq, strR_pure]; rfl) ?_ ?_
        · (first | trivial | (simp; done) | exact hJ.symm | exact ⟨hJ.symm, hJ.symm⟩)
        refine AWp.condB (by simp only [go_sem, seval, bC_eq, strR_pure]; rfl) (by simp only [go_sem, seval, bC_eq, strR_pure]) (fun h36 => ?_) (fun h36 => ?_)
        · refine AWp.rgn [call0 (l7Expr_a b.expr s2), call0 (l5None_a b.thn s3)] (by simp only [go_sem, seval, bC_eq, strR_pure]; rfl) ?_ ?_
          · (first | trivial | (simp; done) | exact hJ.symm | exact ⟨hJ.symm, hJ.symm⟩)
          refine Exists.intro (bok0 b) ⟨?_, ?_⟩
          · rfl
          exact Can.weak (Weak.lit (by simp only [go_sem, seval, bC_eq, strR_pure, subM, leV, inns, innr, V.inn, us, true_or, or_true] <;> ((unfold bok0; simp_all))) (by simp only [go_sem, seval, bC_eq, strR_pure, subM, leV, inns, innr, V.inn, us, true_or, or_true]) (by simp only [go_sem, seval, bC_eq, strR_pure, subM, leV, inns, innr, V.inn, us, true_or, or_true]))
        · refine AWp.seq ?_
          refine AWp.rgn [] (by simp only [go_sem, seval, bC_eq, strR_pure]; rfl) ?_ ?_
          · (first | trivial | (simp; done) | exact hJ.symm | exact ⟨hJ.symm, hJ.symm⟩)
          refine AWp.condB (by simp only [go_sem, seval, bC_eq, strR_pure]; rfl) (by simp only [go_sem, seval, bC_eq, strR_pure]) (fun h51 => ?_) (fun h51 => ?_)
          · refine AWp.rgn [call0 (l7Expr_a b.expr s2), call0 (l7Expr_a b.thn s3)] (by simp only [go_sem, seval, bC_eq, strR_pure]; rfl) ?_ ?_
            · (first | trivial | (simp; done) | exact hJ.symm | exact ⟨hJ.symm, hJ.symm⟩)
            refine Exists.intro (bok0 b) ⟨?_, ?_⟩
            · rfl
            exact Can.weak (Weak.lit (by simp only [go_sem, seval, bC_eq, strR_pure, subM, leV, inns, innr, V.inn, us, true_or, or_true] <;> ((unfold bok0; simp_all))) (by simp only [go_sem, seval, bC_eq, strR_pure, subM, leV, inns, innr, V.inn, us, true_or, or_true]) (by simp only [go_sem, seval, bC_eq, strR_pure, subM, leV, inns, innr, V.inn, us, true_or, or_true]))
          · refine AWp.skip ?_
            refine Exists.intro (bok0 b) ⟨?_, ?_⟩
            · rfl
            exact Can.weak (Weak.lit (by simp only [go_sem, seval, bC_eq, strR_pure, subM, leV, inns, innr, V.inn, us, true_or, or_true] <;> ((unfold bok0; simp_all))) (by simp only [go_sem, seval, bC_eq, strR_pure, subM, leV, inns, innr, V.inn, us, true_or, or_true]) (by simp only [go_sem, seval, bC_eq, strR_pure, subM, leV, inns, innr, V.inn, us, true_or, or_true]))
  cases q
  · refine AWp.seq ?_
    refine AWp.rgn [callI (bok0 b = true) (fun h => l7Words_a b h hs), callI (bok0 b = true) (fun h => sTokText_a (bw b) (by have := (bw_le h).1; omega) (by have := bw_text h; omega))] (by simp only [go_sem, seval, bC_eq, strR_pure]; rfl) ?_ ?_
    · (first | trivial | (simp; done) | exact hJ.symm | exact ⟨hJ.symm, hJ.symm⟩)
    refine AWp.ret (And.intro (.inr rfl) ?_)
    exact Out.plain (by simp only [Tryz.results44]; rfl) (by simp only [resCs, resC, go_sem, seval, bC_eq, strR_pure] <;> (split <;> rfl)) (by simp only [resV, go_sem, seval, bC_eq, strR_pure] <;> (rw [bok, ← hJ]; first | rfl | (rw [Bool.true_and, dec_cast]; rfl))) (by simp only [go_sem, seval, bC_eq, strR_pure])
  · refine AWp.seq ?_
    refine AWp.rgn [callI (bok0 b = true) (fun h => l7Words_a b h hs), callI (bok0 b = true) (fun h => sTokText_a (bw b) (by have := (bw_le h).1; omega) (by have := bw_text h; omega))] (by simp only [go_sem, seval, bC_eq, strR_pure]; rfl) ?_ ?_
    · (first | trivial | (simp; done) | exact hJ.symm | exact ⟨hJ.symm, hJ.symm⟩)
    refine AWp.ret (And.intro (.inr rfl) ?_)
    exact Out.plain (by simp only [Tryz.results44]; rfl) (by simp only [resCs, resC, go_sem, seval, bC_eq, strR_pure] <;> (split <;> rfl)) (by simp only [resV, go_sem, seval, bC_eq, strR_pure] <;> (rw [bok, ← hJ]; first | rfl | (rw [Bool.true_and, dec_cast]; rfl))) (by simp only [go_sem, seval, bC_eq, strR_pure])
end
end Go.Proofs.YteihfmnmpdbkiaaGreatDoor
