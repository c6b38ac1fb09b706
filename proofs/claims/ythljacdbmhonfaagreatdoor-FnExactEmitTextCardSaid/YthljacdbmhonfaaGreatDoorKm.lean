/- Parts of the proof, one after another: What the exact laws do with expressions: size, copies, sameness. | What the exact laws do with lines: size, copies, sameness. | Arguments of a law as trees: texts, numbers, expressions, lines. Conditions: none. -/
import Derived.Test.YthljacdbmhonfaaGreatDoorKl
import Derived.Test.YthljacdbmhonfaaGreatDoorKk
set_option linter.unusedVariables false
set_option linter.unusedSimpArgs false
section
namespace Go.Proofs.YthljacdbmhonfaaGreatDoor
set_option maxRecDepth 100000
set_option maxHeartbeats 4000000

mutual
/-- lengths that a number holds -/
def bd : E → Bool
  | .mk _ _ s kids => decide (s.length ≤ 9223372036854775807) && decide (kids.length ≤ 9223372036854775807) && bds kids
def bds : List E → Bool
  | [] => true
  | e :: r => bd e && bds r
end
theorem bds_mem : ∀ {l : List E}, bds l = true → ∀ e ∈ l, bd e = true
  | [], _, e, he => by cases he
  | x :: r, h, e, he => by
    simp only [bds, Bool.and_eq_true] at h
    rcases List.mem_cons.1 he with rfl | he
    · exact h.1
    · exact bds_mem h.2 e he
theorem bd_open {e : E} (h : bd e = true) : e.s.length ≤ 9223372036854775807 ∧ e.kids.length ≤ 9223372036854775807 ∧ bds e.kids = true := by
  cases e; simp only [bd, Bool.and_eq_true, decide_eq_true_eq] at h; exact ⟨h.1.1, h.1.2, h.2⟩
mutual
/-- what is left of a size -/
def szE : E → Int → Int
  | .mk _ _ s kids, l => if l - s.length < 0 then -1 else if l - s.length - kids.length < 0 then -1 else szL kids (l - s.length - kids.length)
def szL : List E → Int → Int
  | [], l => l
  | e :: r, l => if szE e l < 0 then -1 else szL r (szE e l)
end
theorem szE_eq (e : E) (l : Int) : szE e l = if l - e.s.length < 0 then -1 else if l - e.s.length - e.kids.length < 0 then -1 else szL e.kids (l - e.s.length - e.kids.length) := by cases e; simp only [szE, E.s, E.kids]; rfl
mutual
theorem szE_le : ∀ (e : E) (l : Int), -1 ≤ l → -1 ≤ szE e l ∧ szE e l ≤ l
  | .mk k n s kids, l, hl => by
    simp only [szE]
    split
    · omega
    · split
      · omega
      · have := szL_le kids (l - s.length - kids.length) (by omega)
        omega
theorem szL_le : ∀ (r : List E) (l : Int), -1 ≤ l → -1 ≤ szL r l ∧ szL r l ≤ l
  | [], l, hl => by simp only [szL]; omega
  | e :: r, l, hl => by
    simp only [szL]
    have h1 := szE_le e l hl
    split
    · omega
    · have := szL_le r (szE e l) (by omega)
      omega
end
mutual
theorem szE_sm : ∀ (e : E) (l : Int), l ≤ 1048576 → 0 ≤ szE e l → sm e = true
  | .mk k n s kids, l, hl, h => by
    simp only [szE] at h
    split at h
    · omega
    · split at h
      · omega
      · have := szL_sm kids _ (by omega) h
        simp only [sm, Bool.and_eq_true, decide_eq_true_eq]
        exact ⟨⟨by omega, by omega⟩, this⟩
theorem szL_sm : ∀ (r : List E) (l : Int), l ≤ 1048576 → 0 ≤ szL r l → sms r = true
  | [], _, _, _ => by simp only [sms]
  | e :: r, l, hl, h => by
    simp only [szL] at h
    split at h
    · omega
    · by_cases h0 : -1 ≤ l
      · have h1 := szE_le e l h0
        simp only [sms, Bool.and_eq_true]
        exact ⟨szE_sm e l hl (by omega), szL_sm r _ (by omega) h⟩
      · have : szE e l = -1 := by cases e; simp only [szE]; rw [if_pos (by omega)]
        omega
end
theorem szL_step {kids : List E} {k : Nat} (h : k < kids.length) (l : Int) : szL (kids.drop k) l = if szE (kids.getD k E0) l < 0 then -1 else szL (kids.drop (k + 1)) (szE (kids.getD k E0) l) := by
  rw [List.drop_eq_getElem_cons h, getD_at h]; simp only [szL]
theorem szL_end {kids : List E} {k : Nat} (h : kids.length ≤ k) (l : Int) : szL (kids.drop k) l = l := by rw [List.drop_of_length_le h]; simp only [szL]
def szLl (l : List E) (q : Int) : Int := if q - l.length < 0 then -1 else szL l (q - l.length)
def SzA (e : E) : Prop := ∀ l : Int, 0 ≤ l → l ≤ 1048576 → ACall En 69 [.ag (eC e), .i .i64 l] [] [.i .i64 (szE e l)] []
theorem szExprS_a (kids : List E) (ih : ∀ e ∈ kids, SzA e) (hk : kids.length ≤ 9223372036854775807) (l : Int) (h1 : 0 ≤ l) (h2 : l ≤ 1048576) : ACall En 123 [.sl false (eR kids), .i .i64 l] [] [.i .i64 (szLl kids l)] [] := by
  have hw : IntKind.i64.wrap (l - kids.length) = l - kids.length := wrap64 (by omega) (by omega)
  refine acall_of_body (fn := Tryz.f123) [] Tryz.func123 rfl rfl (by simp) fun C => ?_
  rw [entry_eq]
  simp only [Tryz.ntmps123, List.length_cons, List.length_nil, Nat.reduceAdd, Nat.reduceSub, List.replicate_succ, List.replicate_zero, List.cons_append, List.nil_append, numL]
  refine AWp.seq ?_
  refine AWp.rgn [] (by simp only [go_sem, seval, hw]; rfl) ?_ ?_
  · (first | trivial | (simp; done))
  refine AWp.seq ?_
  refine AWp.rgn [] (by simp only [go_sem, seval, hw]; rfl) ?_ ?_
  · (first | trivial | (simp; done))
  refine AWp.seq ?_
  refine AWp.seq ?_
  refine AWp.rgn [] (by simp only [go_sem, seval, hw]; rfl) ?_ ?_
  · (first | trivial | (simp; done))
  refine AWp.condB (by simp only [go_sem, seval, hw]; rfl) (by simp only [go_sem, seval, hw]) (fun h11 => ?_) (fun h11 => ?_)
  · refine AWp.seq ?_
    refine AWp.rgn [] (by simp only [go_sem, seval, hw]; rfl) ?_ ?_
    · (first | trivial | (simp; done))
    refine AWp.ret (And.intro (.inr rfl) ?_)
    exact Out.plain (by simp only [Tryz.results123]; rfl) (by simp only [resCs, resC, go_sem, seval, hw] <;> (split <;> rfl)) (by simp only [resV, go_sem, seval, hw] <;> (simp at h11; simp [szLl, h11])) (by simp only [go_sem, seval, hw])
  · refine AWp.skip ?_
    refine AWp.seq ?_
    refine AWp.seq ?_
    refine AWp.rgn [] (by simp only [go_sem, seval, hw]; rfl) ?_ ?_
    · (first | trivial | (simp; done))
    refine AWp.block ?_
    refine AWp.loopK (fun k : Nat × Int => ⟨[.sl false (eR kids), .i .i64 k.2, .no, .no, .no, .i .i64 k.1, .no, .no, .no, .no, .no, .no, .no, .no, .no, .no, .no, .no, .no, .no, .no, .no, .no, .no, .no, .no, .no], memOf [], us []⟩) (fun k : Nat × Int => k.1 ≤ kids.length ∧ 0 ≤ k.2 ∧ k.2 ≤ 1048576 ∧ szLl kids l = szL (kids.drop k.1) k.2) (fun k : Nat × Int => kids.length - k.1) ((0, l - kids.length)) ?_ ?_ (fun k hI => ?_)
    · simp at h11; simp [szLl, show ¬ (l - (kids.length : Int) < 0) by omega]; omega
    · exact Can.weak (Weak.lit (by simp only [go_sem, seval, hw, subM, leV, inns, innr, V.inn, us, true_or, or_true] <;> (simp)) (by simp only [go_sem, seval, hw, subM, leV, inns, innr, V.inn, us, true_or, or_true]) (by simp only [go_sem, seval, hw, subM, leV, inns, innr, V.inn, us, true_or, or_true]))
    refine AWp.seq ?_
    refine AWp.seq ?_
    refine AWp.rgn [] (by simp only [go_sem, seval, hw]; rfl) ?_ ?_
    · (first | trivial | (simp; done))
    refine AWp.condB (by simp only [go_sem, seval, hw]; rfl) (by simp only [go_sem, seval, hw]) (fun h15 => ?_) (fun h15 => ?_)
    · refine AWp.skip ?_
      refine AWp.seq ?_
      refine AWp.block ?_
      refine AWp.seq ?_
      refine AWp.rgn [call0 (ih (kids.getD k.1 E0) (getD_mem (by simpa using h15)) k.2 (by omega) (by omega))] (by simp only [go_sem, seval, hw, eR_get (show k.1 < kids.length by simpa using h15)]; rfl) ?_ ?_
      · simp at h15; simp; exact h15
      refine AWp.seq ?_
      refine AWp.rgn [] (by simp only [go_sem, seval, hw]; rfl) ?_ ?_
      · (first | trivial | (simp; done))
      refine AWp.condB (by simp only [go_sem, seval, hw]; rfl) (by simp only [go_sem, seval, hw]) (fun h25 => ?_) (fun h25 => ?_)
      · refine AWp.seq ?_
        refine AWp.rgn [] (by simp only [go_sem, seval, hw]; rfl) ?_ ?_
        · (first | trivial | (simp; done))
        refine AWp.ret (And.intro (.inr rfl) ?_)
        exact Out.plain (by simp only [Tryz.results123]; rfl) (by simp only [resCs, resC, go_sem, seval, hw] <;> (split <;> rfl)) (by simp only [resV, go_sem, seval, hw] <;> (simp at h15; simp only [decide_eq_true_eq] at h25; have e1 := szL_step h15 k.2; rw [if_pos h25] at e1; rw [hI.2.2.2, e1])) (by simp only [go_sem, seval, hw])
      · refine AWp.skip ?_
        refine AWp.rgn [] (by simp only [go_sem, seval, hw]; rfl) ?_ ?_
        · (first | trivial | (simp; done))
        refine Exists.intro ((k.1 + 1, szE (kids.getD k.1 E0) k.2)) ⟨?_, ?_, ?_⟩
        · simp at h15; simp only [decide_eq_false_iff_not] at h25; have e1 := szL_step h15 k.2; have e2 := szE_le (kids.getD k.1 E0) k.2 (by omega); rw [if_neg (by omega)] at e1; exact ⟨by dsimp only; omega, by dsimp only; omega, by dsimp only; omega, by rw [hI.2.2.2, e1]⟩
        · simp at h15; simp; omega
        exact Can.weak (Weak.lit (by simp only [go_sem, seval, hw, subM, leV, inns, innr, V.inn, us, true_or, or_true] <;> (rw [wrap64 (by simp at h15; omega) (by simp at h15; omega)]; simp)) (by simp only [go_sem, seval, hw, subM, leV, inns, innr, V.inn, us, true_or, or_true]) (by simp only [go_sem, seval, hw, subM, leV, inns, innr, V.inn, us, true_or, or_true]))
    · refine AWp.exit ?_
      refine AWp.seq ?_
      refine AWp.rgn [] (by simp only [go_sem, seval, hw]; rfl) ?_ ?_
      · (first | trivial | (simp; done))
      refine AWp.ret (And.intro (.inr rfl) ?_)
      exact Out.plain (by simp only [Tryz.results123]; rfl) (by simp only [resCs, resC, go_sem, seval, hw] <;> (split <;> rfl)) (by simp only [resV, go_sem, seval, hw] <;> (simp at h15; rw [hI.2.2.2, szL_end h15])) (by simp only [go_sem, seval, hw])
theorem szExpr_a (e : E) : bd e = true → SzA e := by
  induction e using E.ind' with
  | h e ih =>
  intro hb l h1 h2
  obtain ⟨b1, b2, b3⟩ := bd_open hb
  have hw : IntKind.i64.wrap (l - e.s.length) = l - e.s.length := wrap64 (by omega) (by omega)
  have hn : szE e l = if l - e.s.length < 0 then -1 else szLl e.kids (l - e.s.length) := by rw [szE_eq]; rfl
  refine acall_of_body (fn := Tryz.f69) [] Tryz.func69 rfl rfl (by simp) fun C => ?_
  rw [entry_eq]
  simp only [Tryz.ntmps69, List.length_cons, List.length_nil, Nat.reduceAdd, Nat.reduceSub, List.replicate_succ, List.replicate_zero, List.cons_append, List.nil_append, numL]
  refine AWp.seq ?_
  refine AWp.rgn [] (by simp only [go_sem, seval, hw, eC_eq]; rfl) ?_ ?_
  · (first | trivial | (simp; done))
  refine AWp.seq ?_
  refine AWp.rgn [] (by simp only [go_sem, seval, hw, eC_eq]; rfl) ?_ ?_
  · (first | trivial | (simp; done))
  refine AWp.seq ?_
  refine AWp.seq ?_
  refine AWp.rgn [] (by simp only [go_sem, seval, hw, eC_eq]; rfl) ?_ ?_
  · (first | trivial | (simp; done))
  refine AWp.condB (by simp only [go_sem, seval, hw, eC_eq]; rfl) (by simp only [go_sem, seval, hw, eC_eq]) (fun h11 => ?_) (fun h11 => ?_)
  · refine AWp.seq ?_
    refine AWp.rgn [] (by simp only [go_sem, seval, hw, eC_eq]; rfl) ?_ ?_
    · (first | trivial | (simp; done))
    refine AWp.ret (And.intro (.inr rfl) ?_)
    exact Out.plain (by simp only [Tryz.results69]; rfl) (by simp only [resCs, resC, go_sem, seval, hw, eC_eq] <;> (split <;> rfl)) (by simp only [resV, go_sem, seval, hw, eC_eq] <;> (simp at h11; rw [hn, if_pos h11])) (by simp only [go_sem, seval, hw, eC_eq])
  · refine AWp.skip ?_
    refine AWp.seq ?_
    refine AWp.rgn [callI (0 ≤ l - (e.s.length : Int)) (fun h => szExprS_a e.kids (fun x hx => ih x hx (bds_mem b3 x hx)) b2 (l - e.s.length) h (by omega))] (by simp only [go_sem, seval, hw, eC_eq]; rfl) ?_ ?_
    · simp at h11; simp; omega
    refine AWp.seq ?_
    refine AWp.seq ?_
    refine AWp.rgn [] (by simp only [go_sem, seval, hw, eC_eq]; rfl) ?_ ?_
    · (first | trivial | (simp; done))
    refine AWp.condB (by simp only [go_sem, seval, hw, eC_eq]; rfl) (by simp only [go_sem, seval, hw, eC_eq]) (fun h17 => ?_) (fun h17 => ?_)
    · refine AWp.seq ?_
      refine AWp.rgn [] (by simp only [go_sem, seval, hw, eC_eq]; rfl) ?_ ?_
      · (first | trivial | (simp; done))
      refine AWp.ret (And.intro (.inr rfl) ?_)
      exact Out.plain (by simp only [Tryz.results69]; rfl) (by simp only [resCs, resC, go_sem, seval, hw, eC_eq] <;> (split <;> rfl)) (by simp only [resV, go_sem, seval, hw, eC_eq] <;> (simp at h11 h17; have := szE_le e l (by omega); rw [hn, if_neg (by omega)] at this ⊢; congr 1; congr 1; omega)) (by simp only [go_sem, seval, hw, eC_eq])
    · refine AWp.skip ?_
      refine AWp.seq ?_
      refine AWp.rgn [] (by simp only [go_sem, seval, hw, eC_eq]; rfl) ?_ ?_
      · (first | trivial | (simp; done))
      refine AWp.ret (And.intro (.inr rfl) ?_)
      exact Out.plain (by simp only [Tryz.results69]; rfl) (by simp only [resCs, resC, go_sem, seval, hw, eC_eq] <;> (split <;> rfl)) (by simp only [resV, go_sem, seval, hw, eC_eq] <;> (simp at h11 h17; rw [hn, if_neg (by omega)])) (by simp only [go_sem, seval, hw, eC_eq])
/-- copies -/
theorem mkR_set {l : List E} {k : Nat} (h : k < l.length) {z : List V} : (filR (eR l) z k).set k (eC (l.getD k E0)) = filR (eR l) z (k + 1) := by
  rw [← filR_set (by rw [eR_len]; exact h), eR_get h]
def z4 : List V := [.i .i64 0, .i .i64 0, .s [], .sl true []]
theorem filR4_len (l : List E) (k j : Nat) : ((filR (eR l) z4 k).getD j []).drop 4 = [] := by
  rw [List.getD_eq_getElem?_getD]
  cases h : (filR (eR l) z4 k)[j]? with
  | none => rfl
  | some r =>
    have hm := List.mem_of_getElem? h
    have : r.length = 4 := by
      rcases filR_mem hm with hm | rfl
      · exact eR_len4 r hm
      · rfl
    simp only [Option.getD_some]; exact List.drop_of_length_le (by omega)
def ToA (e : E) : Prop := ACall En 70 [.ag (eC e)] [] [.ag (eC e)] []
theorem toExprS_a (kids : List E) (ih : ∀ e ∈ kids, ToA e) (hk : kids.length < 1099511627776) : ACall En 124 [.sl false (eR kids)] [] [.sl false (eR kids)] [] := by
  have hp : ∀ k, purer (filR (eR kids) z4 k) = true := fun k => filR_pure (eR_pure _) rfl
  refine acall_of_body (fn := Tryz.f124) [] Tryz.func124 rfl rfl (by simp) fun C => ?_
  rw [entry_eq]
  simp only [Tryz.ntmps124, List.length_cons, List.length_nil, Nat.reduceAdd, Nat.reduceSub, List.replicate_succ, List.replicate_zero, List.cons_append, List.nil_append, numL]
  refine AWp.seq ?_
  refine AWp.rgn [] (by simp only [go_sem, seval, hp, filR4_len, filR_len]; rfl) ?_ ?_
  · (first | trivial | (simp; done))
  refine AWp.seq ?_
  refine AWp.rgn [] (by simp only [go_sem, seval, hp, filR4_len, filR_len]; rfl) ?_ ?_
  · simp; omega
  refine AWp.seq ?_
  refine AWp.seq ?_
  refine AWp.rgn [] (by simp only [go_sem, seval, hp, filR4_len, filR_len]; rfl) ?_ ?_
  · (first | trivial | (simp; done))
  refine AWp.block ?_
  refine AWp.loopK (fun k : Nat => ⟨[.sl false (eR kids), .no, .no, .ow 17 4 0 kids.length, .i .i64 k, .no, .no, .no, .no, .no, .no, .no, .no, .no, .no, .no, .no, .no, .no, .no, .no, .no, .no], memOf [(17, ⟨25, 4, filR (eR kids) z4 k⟩)], us [17]⟩) (fun k : Nat => k ≤ kids.length) (fun k : Nat => kids.length - k) (0) ?_ ?_ (fun k hI => ?_)
  · simp
  · exact Can.weak (Weak.lit (by simp only [go_sem, seval, hp, filR4_len, filR_len, subM, leV, inns, innr, V.inn, us, true_or, or_true] <;> (simp)) (by simp only [go_sem, seval, hp, filR4_len, filR_len, subM, leV, inns, innr, V.inn, us, true_or, or_true]) (by simp only [go_sem, seval, hp, filR4_len, filR_len, subM, leV, inns, innr, V.inn, us, true_or, or_true] <;> (simp [filR_zero, z4, eR_len])))
  refine AWp.seq ?_
  refine AWp.seq ?_
  refine AWp.rgn [] (by simp only [go_sem, seval, hp, filR4_len, filR_len]; rfl) ?_ ?_
  · (first | trivial | (simp; done))
  refine AWp.condB (by simp only [go_sem, seval, hp, filR4_len, filR_len]; rfl) (by simp only [go_sem, seval, hp, filR4_len, filR_len]) (fun h11 => ?_) (fun h11 => ?_)
  · refine AWp.skip ?_
    refine AWp.seq ?_
    refine AWp.block ?_
    refine AWp.rgn [call0 (ih (kids.getD k E0) (getD_mem (by simpa using h11)))] (by simp only [go_sem, seval, hp, filR4_len, filR_len, eR_get (show k < kids.length by simpa using h11), mkR_set (show k < kids.length by simpa using h11)]; rfl) ?_ ?_
    · simp at h11; simp; omega
    refine AWp.rgn [] (by simp only [go_sem, seval, hp, filR4_len, filR_len]; rfl) ?_ ?_
    · (first | trivial | (simp; done))
    refine Exists.intro (k + 1) ⟨?_, ?_, ?_⟩
    · simp at h11; omega
    · simp at h11; omega
    exact Can.weak (Weak.lit (by simp only [go_sem, seval, hp, filR4_len, filR_len, subM, leV, inns, innr, V.inn, us, true_or, or_true] <;> (rw [wrap64 (by simp at h11; omega) (by simp at h11; omega)]; simp)) (by simp only [go_sem, seval, hp, filR4_len, filR_len, subM, leV, inns, innr, V.inn, us, true_or, or_true]) (by simp only [go_sem, seval, hp, filR4_len, filR_len, subM, leV, inns, innr, V.inn, us, true_or, or_true] <;> (simp [eC_eq, ← mkR_set (show k < kids.length by simpa using h11)])))
  · refine AWp.exit ?_
    refine AWp.seq ?_
    refine AWp.rgn [] (by simp only [go_sem, seval, hp, filR4_len, filR_len]; rfl) ?_ ?_
    · (first | trivial | (simp; done))
    refine AWp.frz 17 (by simp only [go_sem, seval, hp, filR4_len, filR_len]; rfl) (by simp only [go_sem, seval, hp, filR4_len, filR_len]) (by simp only [go_sem, seval, hp, filR4_len, filR_len]; rfl) (by simp only [go_sem, seval, hp, filR4_len, filR_len]; rfl) ?_
    refine AWp.ret (And.intro (.inr rfl) ?_)
    exact Out.plain (by simp only [Tryz.results124]; rfl) (by simp only [resCs, resC, go_sem, seval, hp, filR4_len, filR_len] <;> (split <;> rfl)) (by simp only [resV, go_sem, seval, hp, filR4_len, filR_len] <;> (simp at h11; rw [filR_end (by simpa [eR_len] using h11)]; simp [List.take_of_length_le, peel, eR_len])) (by simp only [go_sem, seval, hp, filR4_len, filR_len])
theorem toExpr_a (e : E) : sm e = true → ToA e := by
  induction e using E.ind' with
  | h e ih =>
  intro hs
  obtain ⟨a1, a2, a3⟩ := sm_open hs
  refine acall_of_body (fn := Tryz.f70) [] Tryz.func70 rfl rfl (by simp) fun C => ?_
  rw [entry_eq]
  simp only [Tryz.ntmps70, List.length_cons, List.length_nil, Nat.reduceAdd, Nat.reduceSub, List.replicate_succ, List.replicate_zero, List.cons_append, List.nil_append, numL]
  refine AWp.seq ?_
  refine AWp.rgn [] (by simp only [go_sem, seval, eC_eq]; rfl) ?_ ?_
  · (first | trivial | (simp; done))
  refine AWp.seq ?_
  refine AWp.rgn [] (by simp only [go_sem, seval, eC_eq]; rfl) ?_ ?_
  · (first | trivial | (simp; done))
  refine AWp.seq ?_
  refine AWp.rgn [] (by simp only [go_sem, seval, eC_eq]; rfl) ?_ ?_
  · (first | trivial | (simp; done))
  refine AWp.seq ?_
  refine AWp.rgn [] (by simp only [go_sem, seval, eC_eq]; rfl) ?_ ?_
  · (first | trivial | (simp; done))
  refine AWp.seq ?_
  refine AWp.rgn [] (by simp only [go_sem, seval, eC_eq]; rfl) ?_ ?_
  · (first | trivial | (simp; done))
  refine AWp.seq ?_
  refine AWp.rgn [call0 (toExprS_a e.kids (fun x hx => ih x hx (sms_mem a3 x hx)) (sm_kids hs))] (by simp only [go_sem, seval, eC_eq]; rfl) ?_ ?_
  · (first | trivial | (simp; done))
  refine AWp.seq ?_
  refine AWp.rgn [] (by simp only [go_sem, seval, eC_eq]; rfl) ?_ ?_
  · (first | trivial | (simp; done))
  refine AWp.ret (And.intro (.inr rfl) ?_)
  exact Out.plain (by simp only [Tryz.results70]; rfl) (by simp only [resCs, resC, go_sem, seval, eC_eq] <;> (split <;> rfl)) (by simp only [resV, go_sem, seval, eC_eq] <;> (rfl)) (by simp only [go_sem, seval, eC_eq])
/-- sameness, as the exact laws ask it -/
def EqA (x : E) : Prop := ∀ y : E, sm y = true → ACall En 71 [.ag (eC x), .ag (eC y)] [] [.b (same x y)] []
theorem eqExprS_a (xs ys : List E) (ih : ∀ e ∈ xs, EqA e) (hx : xs.length < 4611686018427387904) (hy : ys.length < 4611686018427387904) (hs : sms ys = true) : ACall En 125 [.sl false (eR xs), .sl false (eR ys)] [] [.b (same.sameL xs ys)] [] := by
  rw [sameL_zip]
  refine acall_of_body (fn := Tryz.f125) [] Tryz.func125 rfl rfl (by simp) fun C => ?_
  rw [entry_eq]
  simp only [Tryz.ntmps125, List.length_cons, List.length_nil, Nat.reduceAdd, Nat.reduceSub, List.replicate_succ, List.replicate_zero, List.cons_append, List.nil_append, numL]
  refine AWp.seq ?_
  refine AWp.rgn [] (by simp only [go_sem, seval]; rfl) ?_ ?_
  · (first | trivial | (simp; done))
  refine AWp.seq ?_
  refine AWp.seq ?_
  refine AWp.rgn [] (by simp only [go_sem, seval]; rfl) ?_ ?_
  · (first | trivial | (simp; done))
  refine AWp.condB (by simp only [go_sem, seval]; rfl) (by simp only [go_sem, seval]) (fun h10 => ?_) (fun h10 => ?_)
  · refine AWp.seq ?_
    refine AWp.rgn [] (by simp only [go_sem, seval]; rfl) ?_ ?_
    · (first | trivial | (simp; done))
    refine AWp.ret (And.intro (.inr rfl) ?_)
    exact Out.plain (by simp only [Tryz.results125]; rfl) (by simp only [resCs, resC, go_sem, seval] <;> (split <;> rfl)) (by simp only [resV, go_sem, seval] <;> (simp at h10; rw [decide_eq_false (by omega)]; rfl)) (by simp only [go_sem, seval])
  · refine AWp.skip ?_
    refine AWp.seq ?_
    refine AWp.seq ?_
    refine AWp.rgn [] (by simp only [go_sem, seval]; rfl) ?_ ?_
    · (first | trivial | (simp; done))
    refine AWp.block ?_
    refine AWp.loopK (fun k : Nat => ⟨[.sl false (eR xs), .sl false (eR ys), .no, .no, .no, .i .i64 k, .no, .no, .no, .no, .no, .no, .no, .no, .no, .no, .no, .no, .no, .no, .no, .no, .no, .no, .no, .no, .no], memOf [], us []⟩) (fun k : Nat => k ≤ xs.length ∧ ((xs.zip ys).take k).all (fun q => same q.1 q.2) = true) (fun k : Nat => xs.length - k) (0) ?_ ?_ (fun k hI => ?_)
    · simp
    · exact Can.weak (Weak.lit (by simp only [go_sem, seval, subM, leV, inns, innr, V.inn, us, true_or, or_true] <;> (simp)) (by simp only [go_sem, seval, subM, leV, inns, innr, V.inn, us, true_or, or_true]) (by simp only [go_sem, seval, subM, leV, inns, innr, V.inn, us, true_or, or_true]))
    refine AWp.seq ?_
    refine AWp.seq ?_
    refine AWp.rgn [] (by simp only [go_sem, seval]; rfl) ?_ ?_
    · (first | trivial | (simp; done))
    refine AWp.condB (by simp only [go_sem, seval]; rfl) (by simp only [go_sem, seval]) (fun h14 => ?_) (fun h14 => ?_)
    · refine AWp.skip ?_
      refine AWp.seq ?_
      refine AWp.block ?_
      refine AWp.seq ?_
      refine AWp.rgnD [call0 (ih (xs.getD k E0) (getD_mem (by simpa using h14)) (ys.getD k E0) (sms_mem hs _ (getD_mem (by simp at h14 h10; omega))))] enM (by simp only [go_sem, seval, eR_get (show k < xs.length by simpa using h14), eR_get (show k < ys.length by simp at h14 h10; omega)]; rfl) (by rfl) ?_ ?_
      · simp at h14 h10; simp; omega
      refine AWp.condB (by simp only [go_sem, seval]; rfl) (by simp only [go_sem, seval]) (fun h26 => ?_) (fun h26 => ?_)
      · refine AWp.seq ?_
        refine AWp.rgn [] (by simp only [go_sem, seval]; rfl) ?_ ?_
        · (first | trivial | (simp; done))
        refine AWp.ret (And.intro (.inr rfl) ?_)
        exact Out.plain (by simp only [Tryz.results125]; rfl) (by simp only [resCs, resC, go_sem, seval] <;> (split <;> rfl)) (by simp only [resV, go_sem, seval] <;> (simp at h14 h10; simp only [Bool.not_eq_true'] at h26; have := zip_bad (fun q => same q.1 q.2) h14 (show k < ys.length by omega) h26; rw [this]; simp)) (by simp only [go_sem, seval])
      · refine AWp.skip ?_
        refine AWp.rgn [] (by simp only [go_sem, seval]; rfl) ?_ ?_
        · (first | trivial | (simp; done))
        refine Exists.intro (k + 1) ⟨?_, ?_, ?_⟩
        · simp at h14 h10; have hb := zip_take (fun q => same q.1 q.2) h14 (show k < ys.length by omega); simp only [Bool.not_eq_false'] at h26; exact ⟨by omega, by rw [hb, hI.2, h26]; rfl⟩
        · simp at h14; omega
        exact Can.weak (Weak.lit (by simp only [go_sem, seval, subM, leV, inns, innr, V.inn, us, true_or, or_true] <;> (rw [wrap64 (by simp at h14; omega) (by simp at h14; omega)]; simp)) (by simp only [go_sem, seval, subM, leV, inns, innr, V.inn, us, true_or, or_true]) (by simp only [go_sem, seval, subM, leV, inns, innr, V.inn, us, true_or, or_true]))
    · refine AWp.exit ?_
      refine AWp.seq ?_
      refine AWp.rgn [] (by simp only [go_sem, seval]; rfl) ?_ ?_
      · (first | trivial | (simp; done))
      refine AWp.ret (And.intro (.inr rfl) ?_)
      exact Out.plain (by simp only [Tryz.results125]; rfl) (by simp only [resCs, resC, go_sem, seval] <;> (split <;> rfl)) (by simp only [resV, go_sem, seval] <;> (simp at h14 h10; have h0 := hI.2; rw [List.take_of_length_le (by rw [List.length_zip]; omega)] at h0; rw [h0, decide_eq_true (by omega)]; rfl)) (by simp only [go_sem, seval])
theorem eqExpr_a (x : E) : sm x = true → EqA x := by
  induction x using E.ind' with
  | h x ih =>
  intro hs y hy
  obtain ⟨a1, a2, a3⟩ := sm_open hs
  obtain ⟨b1, b2, b3⟩ := sm_open hy
  rw [same_eq]
  refine acall_of_body (fn := Tryz.f71) [] Tryz.func71 rfl rfl (by simp) fun C => ?_
  rw [entry_eq]
  simp only [Tryz.ntmps71, List.length_cons, List.length_nil, Nat.reduceAdd, Nat.reduceSub, List.replicate_succ, List.replicate_zero, List.cons_append, List.nil_append, numL]
  refine AWp.seq ?_
  refine AWp.rgn [] (by simp only [go_sem, seval, eC_eq]; rfl) ?_ ?_
  · (first | trivial | (simp; done))
  refine AWp.seq ?_
  refine AWp.seq ?_
  refine AWp.rgn [] (by simp only [go_sem, seval, eC_eq]; rfl) ?_ ?_
  · (first | trivial | (simp; done))
  refine AWp.condB (by simp only [go_sem, seval, eC_eq]; rfl) (by simp only [go_sem, seval, eC_eq]) (fun h9 => ?_) (fun h9 => ?_)
  · refine AWp.seq ?_
    refine AWp.rgn [] (by simp only [go_sem, seval, eC_eq]; rfl) ?_ ?_
    · (first | trivial | (simp; done))
    refine AWp.ret (And.intro (.inr rfl) ?_)
    exact Out.plain (by simp only [Tryz.results71]; rfl) (by simp only [resCs, resC, go_sem, seval, eC_eq] <;> (split <;> rfl)) (by simp only [resV, go_sem, seval, eC_eq] <;> (simp at h9; simp [h9])) (by simp only [go_sem, seval, eC_eq])
  · refine AWp.skip ?_
    refine AWp.seq ?_
    refine AWp.seq ?_
    refine AWp.rgn [] (by simp only [go_sem, seval, eC_eq]; rfl) ?_ ?_
    · (first | trivial | (simp; done))
    refine AWp.condB (by simp only [go_sem, seval, eC_eq]; rfl) (by simp only [go_sem, seval, eC_eq]) (fun h14 => ?_) (fun h14 => ?_)
    · refine AWp.seq ?_
      refine AWp.rgn [] (by simp only [go_sem, seval, eC_eq]; rfl) ?_ ?_
      · (first | trivial | (simp; done))
      refine AWp.ret (And.intro (.inr rfl) ?_)
      exact Out.plain (by simp only [Tryz.results71]; rfl) (by simp only [resCs, resC, go_sem, seval, eC_eq] <;> (split <;> rfl)) (by simp only [resV, go_sem, seval, eC_eq] <;> (simp at h9 h14; simp [h14])) (by simp only [go_sem, seval, eC_eq])
    · refine AWp.skip ?_
      refine AWp.seq ?_
      refine AWp.seq ?_
      refine AWp.rgn [] (by simp only [go_sem, seval, eC_eq]; rfl) ?_ ?_
      · (first | trivial | (simp; done))
      refine AWp.condB (by simp only [go_sem, seval, eC_eq]; rfl) (by simp only [go_sem, seval, eC_eq]) (fun h19 => ?_) (fun h19 => ?_)
      · refine AWp.seq ?_
        refine AWp.rgn [] (by simp only [go_sem, seval, eC_eq]; rfl) ?_ ?_
        · (first | trivial | (simp; done))
        refine AWp.ret (And.intro (.inr rfl) ?_)
        exact Out.plain (by simp only [Tryz.results71]; rfl) (by simp only [resCs, resC, go_sem, seval, eC_eq] <;> (split <;> rfl)) (by simp only [resV, go_sem, seval, eC_eq] <;> (simp at h9 h14 h19; simp [h19])) (by simp only [go_sem, seval, eC_eq])
      · refine AWp.skip ?_
        refine AWp.seq ?_
        refine AWp.seq ?_
        refine AWp.rgn [call0 (eqExprS_a x.kids y.kids (fun e he => ih e he (sms_mem a3 e he)) a2 b2 b3)] (by simp only [go_sem, seval, eC_eq]; rfl) ?_ ?_
        · (first | trivial | (simp; done))
        refine AWp.condB (by simp only [go_sem, seval, eC_eq]; rfl) (by simp only [go_sem, seval, eC_eq]) (fun h25 => ?_) (fun h25 => ?_)
        · refine AWp.seq ?_
          refine AWp.rgn [] (by simp only [go_sem, seval, eC_eq]; rfl) ?_ ?_
          · (first | trivial | (simp; done))
          refine AWp.ret (And.intro (.inr rfl) ?_)
          exact Out.plain (by simp only [Tryz.results71]; rfl) (by simp only [resCs, resC, go_sem, seval, eC_eq] <;> (split <;> rfl)) (by simp only [resV, go_sem, seval, eC_eq] <;> (simp at h9 h14 h19 h25; simp [h25])) (by simp only [go_sem, seval, eC_eq])
        · refine AWp.skip ?_
          refine AWp.seq ?_
          refine AWp.rgn [] (by simp only [go_sem, seval, eC_eq]; rfl) ?_ ?_
          · (first | trivial | (simp; done))
          refine AWp.ret (And.intro (.inr rfl) ?_)
          exact Out.plain (by simp only [Tryz.results71]; rfl) (by simp only [resCs, resC, go_sem, seval, eC_eq] <;> (split <;> rfl)) (by simp only [resV, go_sem, seval, eC_eq] <;> (simp at h9 h14 h19 h25; simp [h9, h14, h19, h25])) (by simp only [go_sem, seval, eC_eq])
end Go.Proofs.YthljacdbmhonfaaGreatDoor
end

section
namespace Go.Proofs.YthljacdbmhonfaaGreatDoor
set_option maxRecDepth 100000
set_option maxHeartbeats 4000000

def bdB (b : Bl) : Bool := decide (b.name.length ≤ 9223372036854775807) && bd b.expr && bd b.thn
theorem bdB_open {b : Bl} (h : bdB b = true) : b.name.length ≤ 9223372036854775807 ∧ bd b.expr = true ∧ bd b.thn = true := by
  simp only [bdB, Bool.and_eq_true, decide_eq_true_eq] at h; exact ⟨h.1.1, h.1.2, h.2⟩
def szB (b : Bl) (l : Int) : Int := if l - b.name.length < 0 then -1 else if szE b.expr (l - b.name.length) < 0 then -1 else szE b.thn (szE b.expr (l - b.name.length))
theorem szB_le (b : Bl) (l : Int) (h : -1 ≤ l) : -1 ≤ szB b l ∧ szB b l ≤ l := by
  unfold szB
  split
  · omega
  · have h1 := szE_le b.expr (l - b.name.length) (by omega)
    split
    · omega
    · have h2 := szE_le b.thn (szE b.expr (l - b.name.length)) (by omega)
      omega
theorem szB_sm {b : Bl} {l : Int} (hl : l ≤ 1048576) (h0 : -1 ≤ l) (h : 0 ≤ szB b l) : smb b = true := by
  unfold szB at h
  split at h
  · omega
  · have h1 := szE_le b.expr (l - b.name.length) (by omega)
    split at h
    · omega
    · have h2 := szE_sm b.expr _ (by omega) (show 0 ≤ szE b.expr (l - b.name.length) by omega)
      have h3 := szE_sm b.thn _ (by omega) h
      simp only [smb, h2, h3, Bool.and_true, decide_eq_true_eq]; omega
theorem szBare_a (b : Bl) (hb : bdB b = true) (l : Int) (h1 : 0 ≤ l) (h2 : l ≤ 1048576) : ACall En 19 [.ag (bC b), .i .i64 l] [] [.i .i64 (szB b l)] [] := by
  obtain ⟨b1, b2, b3⟩ := bdB_open hb
  have hw : IntKind.i64.wrap (l - b.name.length) = l - b.name.length := wrap64 (by omega) (by omega)
  have hle : 0 ≤ l - (b.name.length : Int) → szE b.expr (l - b.name.length) ≤ 1048576 := fun h => by have := szE_le b.expr (l - b.name.length) (by omega); omega
  refine acall_of_body (fn := Tryz.f19) [] Tryz.func19 rfl rfl (by simp) fun C => ?_
  rw [entry_eq]
  simp only [Tryz.ntmps19, List.length_cons, List.length_nil, Nat.reduceAdd, Nat.reduceSub, List.replicate_succ, List.replicate_zero, List.cons_append, List.nil_append, numL]
  refine AWp.seq ?_
  refine AWp.rgn [] (by simp only [go_sem, seval, hw, bC_eq]; rfl) ?_ ?_
  · (first | trivial | (simp; done))
  refine AWp.seq ?_
  refine AWp.rgn [] (by simp only [go_sem, seval, hw, bC_eq]; rfl) ?_ ?_
  · (first | trivial | (simp; done))
  refine AWp.seq ?_
  refine AWp.seq ?_
  refine AWp.rgn [] (by simp only [go_sem, seval, hw, bC_eq]; rfl) ?_ ?_
  · (first | trivial | (simp; done))
  refine AWp.condB (by simp only [go_sem, seval, hw, bC_eq]; rfl) (by simp only [go_sem, seval, hw, bC_eq]) (fun h11 => ?_) (fun h11 => ?_)
  · refine AWp.seq ?_
    refine AWp.rgn [] (by simp only [go_sem, seval, hw, bC_eq]; rfl) ?_ ?_
    · (first | trivial | (simp; done))
    refine AWp.ret (And.intro (.inr rfl) ?_)
    exact Out.plain (by simp only [Tryz.results19]; rfl) (by simp only [resCs, resC, go_sem, seval, hw, bC_eq] <;> (split <;> rfl)) (by simp only [resV, go_sem, seval, hw, bC_eq] <;> (simp only [decide_eq_true_eq] at h11; rw [szB, if_pos h11])) (by simp only [go_sem, seval, hw, bC_eq])
  · refine AWp.skip ?_
    refine AWp.seq ?_
    refine AWp.rgn [callI (0 ≤ l - (b.name.length : Int)) (fun h => szExpr_a b.expr b2 (l - b.name.length) h (by omega))] (by simp only [go_sem, seval, hw, bC_eq]; rfl) ?_ ?_
    · simp only [decide_eq_false_iff_not] at h11; simp; omega
    refine AWp.seq ?_
    refine AWp.seq ?_
    refine AWp.rgn [] (by simp only [go_sem, seval, hw, bC_eq]; rfl) ?_ ?_
    · (first | trivial | (simp; done))
    refine AWp.condB (by simp only [go_sem, seval, hw, bC_eq]; rfl) (by simp only [go_sem, seval, hw, bC_eq]) (fun h17 => ?_) (fun h17 => ?_)
    · refine AWp.seq ?_
      refine AWp.rgn [] (by simp only [go_sem, seval, hw, bC_eq]; rfl) ?_ ?_
      · (first | trivial | (simp; done))
      refine AWp.ret (And.intro (.inr rfl) ?_)
      exact Out.plain (by simp only [Tryz.results19]; rfl) (by simp only [resCs, resC, go_sem, seval, hw, bC_eq] <;> (split <;> rfl)) (by simp only [resV, go_sem, seval, hw, bC_eq] <;> (simp only [decide_eq_true_eq, decide_eq_false_iff_not] at h11 h17; rw [szB, if_neg h11, if_pos h17])) (by simp only [go_sem, seval, hw, bC_eq])
    · refine AWp.skip ?_
      refine AWp.seq ?_
      refine AWp.rgn [callI (0 ≤ l - (b.name.length : Int) ∧ 0 ≤ szE b.expr (l - b.name.length)) (fun h => szExpr_a b.thn b3 (szE b.expr (l - b.name.length)) h.2 (hle h.1))] (by simp only [go_sem, seval, hw, bC_eq]; rfl) ?_ ?_
      · simp only [decide_eq_false_iff_not] at h11 h17; simp; omega
      refine AWp.seq ?_
      refine AWp.seq ?_
      refine AWp.rgn [] (by simp only [go_sem, seval, hw, bC_eq]; rfl) ?_ ?_
      · (first | trivial | (simp; done))
      refine AWp.condB (by simp only [go_sem, seval, hw, bC_eq]; rfl) (by simp only [go_sem, seval, hw, bC_eq]) (fun h23 => ?_) (fun h23 => ?_)
      · refine AWp.seq ?_
        refine AWp.rgn [] (by simp only [go_sem, seval, hw, bC_eq]; rfl) ?_ ?_
        · (first | trivial | (simp; done))
        refine AWp.ret (And.intro (.inr rfl) ?_)
        exact Out.plain (by simp only [Tryz.results19]; rfl) (by simp only [resCs, resC, go_sem, seval, hw, bC_eq] <;> (split <;> rfl)) (by simp only [resV, go_sem, seval, hw, bC_eq] <;> (simp only [decide_eq_true_eq, decide_eq_false_iff_not] at h11 h17 h23; rw [szB, if_neg h11, if_neg h17]; have := szE_le b.thn (szE b.expr (l - b.name.length)) (by omega); congr 1; congr 1; omega)) (by simp only [go_sem, seval, hw, bC_eq])
      · refine AWp.skip ?_
        refine AWp.seq ?_
        refine AWp.rgn [] (by simp only [go_sem, seval, hw, bC_eq]; rfl) ?_ ?_
        · (first | trivial | (simp; done))
        refine AWp.ret (And.intro (.inr rfl) ?_)
        exact Out.plain (by simp only [Tryz.results19]; rfl) (by simp only [resCs, resC, go_sem, seval, hw, bC_eq] <;> (split <;> rfl)) (by simp only [resV, go_sem, seval, hw, bC_eq] <;> (simp only [decide_eq_true_eq, decide_eq_false_iff_not] at h11 h17 h23; rw [szB, if_neg h11, if_neg h17])) (by simp only [go_sem, seval, hw, bC_eq])
theorem toBare_a (b : Bl) (hs : smb b = true) : ACall En 21 [.ag (bC b)] [] [.ag (bC b)] [] := by
  obtain ⟨s1, s2, s3⟩ := smb_open hs
  refine acall_of_body (fn := Tryz.f21) [] Tryz.func21 rfl rfl (by simp) fun C => ?_
  rw [entry_eq]
  simp only [Tryz.ntmps21, List.length_cons, List.length_nil, Nat.reduceAdd, Nat.reduceSub, List.replicate_succ, List.replicate_zero, List.cons_append, List.nil_append, numL]
  refine AWp.seq ?_
  refine AWp.rgn [] (by simp only [go_sem, seval, bC_eq, eC_eq]; rfl) ?_ ?_
  · (first | trivial | (simp; done))
  refine AWp.seq ?_
  refine AWp.rgn [] (by simp only [go_sem, seval, bC_eq, eC_eq]; rfl) ?_ ?_
  · (first | trivial | (simp; done))
  refine AWp.seq ?_
  refine AWp.rgn [] (by simp only [go_sem, seval, bC_eq, eC_eq]; rfl) ?_ ?_
  · (first | trivial | (simp; done))
  refine AWp.seq ?_
  refine AWp.rgn [] (by simp only [go_sem, seval, bC_eq, eC_eq]; rfl) ?_ ?_
  · (first | trivial | (simp; done))
  refine AWp.seq ?_
  refine AWp.rgn [call0 (toExpr_a b.expr s2)] (by simp only [go_sem, seval, bC_eq, eC_eq]; rfl) ?_ ?_
  · (first | trivial | (simp; done))
  refine AWp.seq ?_
  refine AWp.rgn [call0 (toExpr_a b.thn s3)] (by simp only [go_sem, seval, bC_eq, eC_eq]; rfl) ?_ ?_
  · (first | trivial | (simp; done))
  refine AWp.seq ?_
  refine AWp.rgn [] (by simp only [go_sem, seval, bC_eq, eC_eq]; rfl) ?_ ?_
  · (first | trivial | (simp; done))
  refine AWp.ret (And.intro (.inr rfl) ?_)
  exact Out.plain (by simp only [Tryz.results21]; rfl) (by simp only [resCs, resC, go_sem, seval, bC_eq, eC_eq] <;> (split <;> rfl)) (by simp only [resV, go_sem, seval, bC_eq, eC_eq] <;> (rfl)) (by simp only [go_sem, seval, bC_eq, eC_eq])
theorem eqBare_a (a b : Bl) (ha : smb a = true) (hb : smb b = true) : ACall En 22 [.ag (bC a), .ag (bC b)] [] [.b (bsame a b)] [] := by
  obtain ⟨a1, a2, a3⟩ := smb_open ha
  obtain ⟨b1, b2, b3⟩ := smb_open hb
  refine acall_of_body (fn := Tryz.f22) [] Tryz.func22 rfl rfl (by simp) fun C => ?_
  rw [entry_eq]
  simp only [Tryz.ntmps22, List.length_cons, List.length_nil, Nat.reduceAdd, Nat.reduceSub, List.replicate_succ, List.replicate_zero, List.cons_append, List.nil_append, numL]
  refine AWp.seq ?_
  refine AWp.rgn [] (by simp only [go_sem, seval, bC_eq]; rfl) ?_ ?_
  · (first | trivial | (simp; done))
  refine AWp.seq ?_
  refine AWp.seq ?_
  refine AWp.rgn [] (by simp only [go_sem, seval, bC_eq]; rfl) ?_ ?_
  · (first | trivial | (simp; done))
  refine AWp.condB (by simp only [go_sem, seval, bC_eq]; rfl) (by simp only [go_sem, seval, bC_eq]) (fun h9 => ?_) (fun h9 => ?_)
  · refine AWp.seq ?_
    refine AWp.rgn [] (by simp only [go_sem, seval, bC_eq]; rfl) ?_ ?_
    · (first | trivial | (simp; done))
    refine AWp.ret (And.intro (.inr rfl) ?_)
    exact Out.plain (by simp only [Tryz.results22]; rfl) (by simp only [resCs, resC, go_sem, seval, bC_eq] <;> (split <;> rfl)) (by simp only [resV, go_sem, seval, bC_eq] <;> (simp at h9; simp [bsame, h9])) (by simp only [go_sem, seval, bC_eq])
  · refine AWp.skip ?_
    refine AWp.seq ?_
    refine AWp.seq ?_
    refine AWp.rgn [] (by simp only [go_sem, seval, bC_eq]; rfl) ?_ ?_
    · (first | trivial | (simp; done))
    refine AWp.condB (by simp only [go_sem, seval, bC_eq]; rfl) (by simp only [go_sem, seval, bC_eq]) (fun h14 => ?_) (fun h14 => ?_)
    · refine AWp.seq ?_
      refine AWp.rgn [] (by simp only [go_sem, seval, bC_eq]; rfl) ?_ ?_
      · (first | trivial | (simp; done))
      refine AWp.ret (And.intro (.inr rfl) ?_)
      exact Out.plain (by simp only [Tryz.results22]; rfl) (by simp only [resCs, resC, go_sem, seval, bC_eq] <;> (split <;> rfl)) (by simp only [resV, go_sem, seval, bC_eq] <;> (simp at h9 h14; simp [bsame, h14])) (by simp only [go_sem, seval, bC_eq])
    · refine AWp.skip ?_
      refine AWp.seq ?_
      refine AWp.seq ?_
      refine AWp.rgn [call0 (eqExpr_a a.expr a2 b.expr b2)] (by simp only [go_sem, seval, bC_eq]; rfl) ?_ ?_
      · (first | trivial | (simp; done))
      refine AWp.condB (by simp only [go_sem, seval, bC_eq]; rfl) (by simp only [go_sem, seval, bC_eq]) (fun h20 => ?_) (fun h20 => ?_)
      · refine AWp.seq ?_
        refine AWp.rgn [] (by simp only [go_sem, seval, bC_eq]; rfl) ?_ ?_
        · (first | trivial | (simp; done))
        refine AWp.ret (And.intro (.inr rfl) ?_)
        exact Out.plain (by simp only [Tryz.results22]; rfl) (by simp only [resCs, resC, go_sem, seval, bC_eq] <;> (split <;> rfl)) (by simp only [resV, go_sem, seval, bC_eq] <;> (simp at h9 h14 h20; simp [bsame, h20])) (by simp only [go_sem, seval, bC_eq])
      · refine AWp.skip ?_
        refine AWp.seq ?_
        refine AWp.seq ?_
        refine AWp.rgn [call0 (eqExpr_a a.thn a3 b.thn b3)] (by simp only [go_sem, seval, bC_eq]; rfl) ?_ ?_
        · (first | trivial | (simp; done))
        refine AWp.condB (by simp only [go_sem, seval, bC_eq]; rfl) (by simp only [go_sem, seval, bC_eq]) (fun h26 => ?_) (fun h26 => ?_)
        · refine AWp.seq ?_
          refine AWp.rgn [] (by simp only [go_sem, seval, bC_eq]; rfl) ?_ ?_
          · (first | trivial | (simp; done))
          refine AWp.ret (And.intro (.inr rfl) ?_)
          exact Out.plain (by simp only [Tryz.results22]; rfl) (by simp only [resCs, resC, go_sem, seval, bC_eq] <;> (split <;> rfl)) (by simp only [resV, go_sem, seval, bC_eq] <;> (simp at h9 h14 h20 h26; simp [bsame, h26])) (by simp only [go_sem, seval, bC_eq])
        · refine AWp.skip ?_
          refine AWp.seq ?_
          refine AWp.rgn [] (by simp only [go_sem, seval, bC_eq]; rfl) ?_ ?_
          · (first | trivial | (simp; done))
          refine AWp.ret (And.intro (.inr rfl) ?_)
          exact Out.plain (by simp only [Tryz.results22]; rfl) (by simp only [resCs, resC, go_sem, seval, bC_eq] <;> (split <;> rfl)) (by simp only [resV, go_sem, seval, bC_eq] <;> (simp at h9 h14 h20 h26; simp [bsame, h9, h14, h20, h26])) (by simp only [go_sem, seval, bC_eq])
end Go.Proofs.YthljacdbmhonfaaGreatDoor
end

section
namespace Go.Proofs.YthljacdbmhonfaaGreatDoor
open Go.ChangeShapes Go.WideShapes Go.ChangeAt Go.RowKit
set_option maxRecDepth 100000

section
variable {H : Type} {enc : TypeId × Value → H} {P : Program} {W : World}
/-- cells that read as type t read as a tree for which Q holds -/
def Opn (enc : TypeId × Value → H) (P : Program) (W : World) (fuel : Nat) (t : TypeId) (Q : List V → Prop) : Prop :=
  ∀ cs x, DataW.trod enc P W 0 (fun _ => true) true fuel t cs = some x → ∃ vs, Q vs ∧ VRs (fun _ => none) (fun _ => True) W vs cs ∧ vs.all V.one = true
theorem opn_int {t : TypeId} {k : IntKind} {fuel : Nat} (ht : P.underlying t = some (.int k)) : Opn enc P W fuel t fun vs => ∃ n : Int, vs = [.i k n] ∧ (Lit.int k n).wf = true := fun cs x h => by
  obtain ⟨n, rfl, _, hw⟩ := DataW.trod_int ht h
  exact ⟨_, ⟨n, rfl, hw⟩, .cons (by simp only [VR]) .nil, rfl⟩
theorem opn_bool {t : TypeId} {fuel : Nat} (ht : P.underlying t = some .bool) : Opn enc P W fuel t fun vs => ∃ n : Bool, vs = [.b n] := fun cs x h => by
  obtain ⟨n, rfl, _⟩ := DataW.trod_bool ht h
  exact ⟨_, ⟨n, rfl⟩, .cons (by simp only [VR]) .nil, rfl⟩
theorem opn_str {t : TypeId} {fuel : Nat} (ht : P.underlying t = some .string) : Opn enc P W fuel t fun vs => ∃ s : Str, vs = [.s s] ∧ s.length ≤ maxLen := fun cs x h => by
  obtain ⟨s, rfl, _, hw⟩ := DataW.trod_string ht h
  refine ⟨_, ⟨s.data.toList, rfl, by rw [Array.length_toList]; exact hw⟩, .cons (by simp only [VR]) .nil, rfl⟩
/-- a field of a struct -/
theorem opn_piece {fs : Array Field} {t : TypeId} {fuel : Nat} {cs : List Value} {x : DataW H × List MemPlace} (ht : P.underlying t = some (.struct fs)) (h : DataW.trod enc P W 0 (fun _ => true) true fuel t cs = some x) {Q : List V → Prop} {f : Field} {i : Nat} (hf : fs[i]? = some f) {off size : Nat} (ho : f.offset = off) (hs : P.cellsOf f.type = size)
    (hq : ∀ n, n + 1 = fuel → Opn enc P W n f.type Q) : cs.length = P.cellsOf t ∧ ∃ vs, Q vs ∧ VRs (fun _ => none) (fun _ => True) W vs ((cs.drop off).take size) ∧ vs.all V.one = true := by
  obtain ⟨xs, n, e1, _, hl, hxl, hx⟩ := DataW.trod_struct ht h
  have hh := hx i f hf
  have hi : i < xs.length := by rw [hxl]; exact (Array.getElem?_eq_some_iff.1 hf).1
  rw [List.getElem?_eq_getElem hi, ho, hs] at hh
  exact ⟨hl, hq n e1.symm _ _ hh⟩
theorem VRs.onesOf {φ : Phi} {S : Nat → Prop} {vs : List V} {xs : List Value} (h : VRs φ S W vs xs) (k : vs.all V.one = true) : ∀ u ∈ xs, u.oneCell' = true := VRs.ones h k
theorem cells_of {base g o z : Nat} {sp : Option _} {cs : List Value} (h : W.cells? base ⟨g, o, sp⟩ z = some cs) : cs.length = z ∧ ∀ j u, cs[j]? = some u → W.cell? ((⟨g, o, sp⟩ : Addr).add j) = some u := by
  unfold World.cells? at h
  split at h
  · refine ⟨by simpa using mapM_some_length h, fun j u hu => ?_⟩
    have hj : j < z := by
      have h1 := mapM_some_length h
      have h2 := (List.getElem?_eq_some_iff.1 hu).1
      simp at h1; omega
    have := mapM_some_get h j j (by simp [hj])
    rw [this]; exact hu
  · cases h
/-- rows, one behind the other -/
theorem rows_build {α : Type} (R : α → List V) (Good : α → Prop) {z g o : Nat} : ∀ n : Nat, (∀ i, i < n → ∃ (a : α) (cs : List Value), Good a ∧ (R a).length = z ∧ VRs (fun _ => none) (fun _ => True) W (R a) cs ∧ (R a).all V.one = true ∧ ∀ j u, cs[j]? = some u → W.cell? ⟨g, o + i * z + j, none⟩ = some u) →
    ∃ l : List α, l.length = n ∧ (∀ a ∈ l, Good a) ∧ ∃ xs, VRr (fun _ => none) (fun _ => True) W z (l.map R) xs ∧ ∀ j u, xs[j]? = some u → W.cell? ⟨g, o + j, none⟩ = some u
  | 0, _ => ⟨[], rfl, fun a ha => (by cases ha), [], .nil, fun j u hu => by simp at hu⟩
  | n + 1, h => by
    obtain ⟨l, hl, hg, xs, hr, hc⟩ := rows_build R Good (z := z) (g := g) (o := o) n fun i hi => h i (by omega)
    obtain ⟨a, cs, ga, hz, hv, h1, hcc⟩ := h n (by omega)
    have hxl : xs.length = n * z := by rw [hr.len, List.length_map, hl]
    have hnew : VRr (fun _ => none) (fun _ => True) W z [R a] (cs ++ []) := .cons hz hv (VRs.ones hv h1) .nil
    refine ⟨l ++ [a], by simp [hl], fun b hb => ?_, xs ++ cs, ?_, fun j u hu => ?_⟩
    · rcases List.mem_append.1 hb with hb | hb
      · exact hg b hb
      · simp at hb; subst hb; exact ga
    · have := hr.append hnew
      simpa using this
    · rw [List.getElem?_append] at hu
      split at hu
      · exact hc j u hu
      · rename_i hj
        have := hcc _ u hu
        rw [show o + n * z + (j - xs.length) = o + j by omega] at this
        exact this
theorem opn_slice {α : Type} (R : α → List V) (Good : α → Prop) {t e : TypeId} {z fuel : Nat} (ht : P.underlying t = some (.slice e)) (hz : P.cellsOf e = z) (hz0 : 0 < z) (hq : ∀ n, n + 1 = fuel → Opn enc P W n e fun vs => ∃ a, vs = R a ∧ Good a) :
    Opn enc P W fuel t fun vs => ∃ l : List α, vs = [.sl false (l.map R)] ∧ l.length ≤ maxLen ∧ ∀ a ∈ l, Good a := fun cs x h => by
  rcases DataW.trod_slice ht h with ⟨rfl, _⟩ | ⟨a, len, cap, elems, rest, n, e1, rfl, _, _, hl, hm, hlen, hel, _⟩
  · refine ⟨_, ⟨[], rfl, by simp, fun a ha => by cases ha⟩, .cons ?_ .nil, rfl⟩
    simp only [VR]
    exact ⟨none, 0, 1, [], rfl, Nat.le_refl _, by decide, fun _ => rfl, fun h => absurd rfl h, VRr.nil⟩
  · obtain ⟨g, o, sp⟩ := a
    by_cases h0 : len = 0
    · subst h0
      refine ⟨_, ⟨[], rfl, by simp, fun a ha => by cases ha⟩, .cons ?_ .nil, rfl⟩
      simp only [VR]
      exact ⟨some ⟨g, o, sp⟩, cap, 1, [], rfl, hl, hm, (fun h => by cases h), (fun h => absurd rfl h), VRr.nil⟩
    · have hE : ∀ i, i < len → ∃ (a : α) (cs : List Value), Good a ∧ (R a).length = z ∧ VRs (fun _ => none) (fun _ => True) W (R a) cs ∧ (R a).all V.one = true ∧ W.cells? 0 ((⟨g, o, sp⟩ : Addr).add (i * z)) z = some cs := fun i hi => by
        have h1 := hel i hi
        have hi2 : i < elems.length := by omega
        rw [List.getElem?_eq_getElem hi2, hz, Option.bind_eq_some_iff] at h1
        obtain ⟨cs, h2, h3⟩ := h1
        obtain ⟨vs, ⟨a, rfl, ga⟩, hv, h4⟩ := hq n e1.symm _ _ h3
        refine ⟨a, cs, ga, ?_, hv, h4, h2⟩
        rw [← hv.len]
        unfold World.cells? at h2
        split at h2
        · simpa using mapM_some_length h2
        · cases h2
      obtain ⟨a0, cs0, _, hz1, hv0, _, hc0⟩ := hE 0 (by omega)
      have hne : 0 < cs0.length := by rw [hv0.len, hz1]; exact hz0
      have hs := (cells_of (by simpa [Addr.add] using hc0)).2 0 cs0[0] (List.getElem?_eq_getElem hne)
      have hsp : sp = none := by simpa [Addr.add] using World.cell?_spot hs
      subst hsp
      have hg : g < W.heap.size := by
        cases hh : W.heap[g]? with
        | none => simp [World.cell?, hh, add_plain] at hs
        | some o => exact (Array.getElem?_eq_some_iff.1 hh).1
      obtain ⟨l, hll, hgood, xs, hr, hc⟩ := rows_build R Good (W := W) (z := z) (g := g) (o := o) len fun i hi => by
        obtain ⟨a, cs, k1, k2, k3, k4, k5⟩ := hE i hi
        rw [add_plain] at k5
        exact ⟨a, cs, k1, k2, k3, k4, fun j u hu => by have := (cells_of k5).2 j u hu; rwa [add_plain] at this⟩
      refine ⟨_, ⟨l, rfl, by omega, hgood⟩, .cons ?_ .nil, rfl⟩
      simp only [VR, List.length_map]
      exact ⟨some ⟨g, o, none⟩, cap, z, xs, by rw [hll], by omega, hm, (fun h => by cases h), (fun _ => ⟨g, o, rfl, trivial, hg, hc⟩), hr⟩
theorem vrs_piece {φ : Phi} {S : Nat → Prop} {vs us : List V} {cs : List Value} {a b c : Nat} (h : VRs φ S W vs ((cs.drop a).take b)) (hc : a + b = c) (k : VRs φ S W us (cs.drop c)) : VRs φ S W (vs ++ us) (cs.drop a) := by
  subst hc
  have := h.append k
  rw [← List.drop_drop, List.take_append_drop] at this
  exact this
theorem vrs_last {φ : Phi} {S : Nat → Prop} {vs : List V} {cs : List Value} {a b : Nat} (h : VRs φ S W vs ((cs.drop a).take b)) (hl : cs.length = a + b) : VRs φ S W vs (cs.drop a) := by
  rw [List.take_of_length_le (by rw [List.length_drop]; omega)] at h; exact h
end
theorem cellsInt : Tryz.prog.cellsOf 3 = 1 := by kernel_rfl
theorem cellsStr : Tryz.prog.cellsOf 9 = 1 := by kernel_rfl
theorem cellsLE : Tryz.prog.cellsOf 34 = 4 := by kernel_rfl
theorem cellsLEs : Tryz.prog.cellsOf 32 = 1 := by kernel_rfl
section
variable {H : Type} {enc : TypeId × Value → H} {W : World}
theorem bds_of : ∀ {l : List E}, (∀ e ∈ l, bd e = true) → bds l = true
  | [], _ => by simp only [bds]
  | e :: r, h => by simp only [bds, Bool.and_eq_true]; exact ⟨h e List.mem_cons_self, bds_of fun x hx => h x (List.mem_cons_of_mem _ hx)⟩
theorem bd_mk {k n : Int} {s : Str} {l : List E} (h1 : s.length ≤ maxLen) (h2 : l.length ≤ maxLen) (h3 : ∀ e ∈ l, bd e = true) : bd (.mk k n s l) = true := by
  have hm : maxLen = 9223372036854775807 := by decide
  simp only [bd, bds_of h3, Bool.and_true, Bool.and_eq_true, decide_eq_true_eq]; omega
theorem opn_expr : ∀ fuel, Opn enc Tryz.prog W fuel 34 fun vs => ∃ e, vs = eC e ∧ bd e = true := by
  intro fuel
  induction fuel using Nat.strongRecOn with
  | ind fuel ih =>
  intro cs x h
  obtain ⟨hl, _, ⟨k, rfl, _⟩, v0, o0⟩ := opn_piece Tryz.underlying34 h (i := 0) rfl rfl cellsInt fun n _ => opn_int Tryz.underlying3
  obtain ⟨_, _, ⟨n, rfl, _⟩, v1, o1⟩ := opn_piece Tryz.underlying34 h (i := 1) rfl rfl cellsInt fun n _ => opn_int Tryz.underlying3
  obtain ⟨_, _, ⟨s, rfl, hs⟩, v2, o2⟩ := opn_piece Tryz.underlying34 h (i := 2) rfl rfl cellsStr fun n _ => opn_str Tryz.underlying9
  obtain ⟨_, _, ⟨l, rfl, hk, hg⟩, v3, o3⟩ := opn_piece Tryz.underlying34 h (i := 3) rfl rfl cellsLEs fun n hn => opn_slice eC (fun e => bd e = true) Tryz.underlying32 cellsLE (by decide) fun m hm => ih m (by omega)
  rw [cellsLE] at hl
  refine ⟨_, ⟨.mk k n s l, rfl, bd_mk hs hk hg⟩, ?_, ?_⟩
  · have := vrs_piece v0 rfl (vrs_piece v1 rfl (vrs_piece v2 rfl (vrs_last v3 hl)))
    simp only [eC, eR_map]; simpa using this
  · simp only [eC]; rfl
theorem eC_ones (e : E) : (eC e).all V.one = true := by rw [eC_eq]; rfl
theorem bare_arg {r : Reach} {base : Nat} {v0 : Value} {d0 : DataW H} {p : List MemPlace} (hv : Value.okWide Tryz.prog W r base 36 v0) (h0 : DataW.Trod enc Tryz.prog W 0 (fun _ => true) true 36 v0 d0 p) :
    ∃ b : Bl, bdB b = true ∧ VR (fun _ => none) (fun _ => True) W (.ag (bC b)) v0 := by
  obtain ⟨fuel, h⟩ := h0
  obtain ⟨hl, _, ⟨k, rfl, _⟩, u0, o0⟩ := opn_piece Tryz.underlying36 h (i := 0) rfl rfl cellsInt fun n _ => opn_int Tryz.underlying3
  obtain ⟨_, _, ⟨s, rfl, hs⟩, u1, o1⟩ := opn_piece Tryz.underlying36 h (i := 1) rfl rfl cellsStr fun n _ => opn_str Tryz.underlying9
  obtain ⟨_, _, ⟨e1, rfl, b1⟩, u2, o2⟩ := opn_piece Tryz.underlying36 h (i := 2) rfl rfl cellsLE fun n _ => opn_expr n
  obtain ⟨_, _, ⟨e2, rfl, b2⟩, u3, o3⟩ := opn_piece Tryz.underlying36 h (i := 3) rfl rfl cellsLE fun n _ => opn_expr n
  rw [show Tryz.prog.cellsOf 36 = 10 by kernel_rfl] at hl
  have hm : maxLen = 9223372036854775807 := by decide
  refine ⟨⟨k, s, e1, e2⟩, by simp only [bdB, b1, b2, Bool.and_true, decide_eq_true_eq]; omega, ?_⟩
  have := vrs_piece u0 rfl (vrs_piece u1 rfl (vrs_piece u2 rfl (vrs_last u3 hl)))
  obtain ⟨xs, rfl, _⟩ := okWide_struct Tryz.underlying36 hv
  simp only [VR]
  exact ⟨xs, rfl, by simpa [bC, Value.cells] using this⟩
end
end Go.Proofs.YthljacdbmhonfaaGreatDoor
end
