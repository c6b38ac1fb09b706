/- The law FnBareOf: what it answers. Conditions: none. -/
import Derived.Test.YthljacdbmhonfaaGreatDoorKn
import Derived.Test.YthljacdbmhonfaaGreatDoorZF2
set_option linter.unusedVariables false
set_option linter.unusedSimpArgs false
namespace Go.Proofs.YthljacdbmhonfaaGreatDoor
set_option maxRecDepth 100000
set_option maxHeartbeats 4000000

theorem toks_len : ∀ (n : Nat) (l : Str) (c : Int) (t : List Tk), toks n l c = some t → t.length ≤ l.length
  | 0, l, c, t, h => by simp [toks] at h; subst h; simp
  | n + 1, [], c, t, h => by simp [toks] at h; subst h; simp
  | n + 1, x :: l, c, t, h => by
    simp only [toks] at h
    split at h
    · have := toks_len n l _ t h; simp only [List.length_cons]; omega
    · split at h
      · cases h
      · obtain ⟨u, hu, rfl⟩ := Option.map_eq_some_iff.1 h
        have h1 := toks_len n _ _ u hu
        have h2 := wlen_pos (x :: l)
        rw [List.length_drop] at h1
        simp only [List.length_cons] at h1 ⊢; omega
theorem tokLine_len (s : Str) : ((tokLine s).getD []).length ≤ s.length := by
  cases h : tokLine s with
  | none => simp
  | some t =>
    unfold tokLine at h
    split at h
    · cases h
    · exact toks_len _ _ _ _ h
theorem tok_btext' {s : Sl} (h : sok s = true) : tokLine (btxt (bof s)) = some (tkOf 0 (bw (bof s))) := by
  have hb := bok_bof h
  have := tok_btext hb
  unfold btxt; rw [if_pos hb]; exact this
theorem tk_off {s : Sl} (h : sok s = true) {k : Nat} (hk : k < (tkOf 0 (bw (bof s))).length) : offW ((tkOf 0 (bw (bof s))).getD k ⟨0, [], 0⟩).s := by
  apply off_bw (bok_bof h)
  have h1 := tkOf_s 0 (bw (bof s))
  have h2 : (tkOf 0 (bw (bof s))).getD k ⟨0, [], 0⟩ ∈ tkOf 0 (bw (bof s)) := by
    rw [List.getD_eq_getElem?_getD, List.getElem?_eq_getElem hk]; exact List.getElem_mem hk
  have h3 := List.mem_map_of_mem (f := (·.s)) h2
  rw [h1] at h3
  exact h3
theorem bof_expr {s : Sl} (h : sok s = true) : (bof s).expr = ebare s.expr := by
  unfold bof ebare
  have h0 := sok_0 h
  by_cases k0 : s.kind = 0
  · unfold sok0 at h0; simp [k0, none0_iff] at h0
    rw [h0.1.2]; simp [k0]; decide
  · have := (sok0_open h0).2.1 (by have := (sok0_open h0).1; omega)
    simp [k0, this]
theorem lawOf_end {s : Sl} (hst : (stxt s).length ≤ 1000) (h : sok s = true) : ((tokLine (btxt (bofOk s))).isSome && bok (bofOk s) && (bofOk s).kind == s.kind && (bofOk s).name == s.name && same (bofOk s).expr (ebare s.expr) && decide (((btxt (bofOk s)).length : Int) ≤ IntKind.i64.wrap (((stxt s).length : Int) + 4))) = true := by
  have e1 : bofOk s = bof s := by simp [bofOk, h]
  have hb := bok_bof h
  rw [e1, tok_btext' h, hb, bof_expr h, same_refl, wrap64 (by omega) (by omega)]
  have ht := text_bof (sok_0 h)
  have e2 : btxt (bof s) = tokText (bw (bof s)) := by simp [btxt, hb]
  have e3 : stxt s = tokText (sw' s) := by simp [stxt, h]
  rw [e2, e3, decide_eq_true (by omega)]
  simp [bof]
theorem lawBareOf_a (b : Str) : ACall En 6 [.sl false (byR b)] [] [.b true] [] := by
  have D := dl5_p (b.take 2000) (p := 0) (by decide) (by decide)
  generalize hx : (dl5 (b.take 2000) 0).1 = s at D
  have DR := DrawBareOf_a b
  rw [hx] at DR
  obtain ⟨_, _, hs⟩ := D
  obtain ⟨s1, s2, s3, s4⟩ := sms_open hs
  have hb := smb_bofOk hs
  obtain ⟨hb1, hb2, hb3⟩ := smb_open hb
  have hT : (btxt (bofOk s)).length ≤ 1000 := by
    unfold btxt; split
    · rename_i h; exact bw_text (bok_0 h)
    · simp
  have hlen := tokLine_len (btxt (bofOk s))
  generalize hts : (tokLine (btxt (bofOk s))).getD [] = ts at hlen
  have hoff : sok s = true → ∀ k, k < ts.length → offW (ts.getD k ⟨0, [], 0⟩).s := fun h k hk => by
    have e1 : bofOk s = bof s := by simp [bofOk, h]
    rw [e1, tok_btext' h] at hts
    subst hts
    exact tk_off h hk
  have TL := TokLine_a (btxt (bofOk s)) (by omega)
  rw [hts] at TL
  have hst : (stxt s).length ≤ 1000 := by
    unfold stxt; split
    · rename_i h; exact sw_text (sok_0 h)
    · simp
  refine acall_of_body (fn := Tryz.f6) [] Tryz.func6 rfl rfl (by simp) fun C => ?_
  rw [entry_eq]
  simp only [Tryz.ntmps6, List.length_cons, List.length_nil, Nat.reduceAdd, Nat.reduceSub, List.replicate_succ, List.replicate_zero, List.cons_append, List.nil_append, numL]
  refine AWp.seq ?_
  refine AWp.rgn [] (by simp only [go_sem, seval, bC_eq, sC_eq, tkR_pure, tkR_len, E0_k, E0_n, E0_s, E0_kids, eR_nil]; rfl) ?_ ?_
  · (first | trivial | (simp; done))
  refine AWp.seq ?_
  refine AWp.seq ?_
  refine AWp.rgn [] (by simp only [go_sem, seval, bC_eq, sC_eq, tkR_pure, tkR_len, E0_k, E0_n, E0_s, E0_kids, eR_nil]; rfl) ?_ ?_
  · (first | trivial | (simp; done))
  refine AWp.condB (by simp only [go_sem, seval, bC_eq, sC_eq, tkR_pure, tkR_len, E0_k, E0_n, E0_s, E0_kids, eR_nil]; rfl) (by simp only [go_sem, seval, bC_eq, sC_eq, tkR_pure, tkR_len, E0_k, E0_n, E0_s, E0_kids, eR_nil]) (fun h10 => ?_) (fun h10 => ?_)
  · refine AWp.seq ?_
    refine AWp.rgn [] (by simp only [go_sem, seval, bC_eq, sC_eq, tkR_pure, tkR_len, E0_k, E0_n, E0_s, E0_kids, eR_nil]; rfl) ?_ ?_
    · (first | trivial | (simp; done))
    refine AWp.ret (And.intro (.inr rfl) ?_)
    exact Out.plain (by simp only [Tryz.results6]; rfl) (by simp only [resCs, resC, go_sem, seval, bC_eq, sC_eq, tkR_pure, tkR_len, E0_k, E0_n, E0_s, E0_kids, eR_nil] <;> (split <;> rfl)) (by simp only [resV, go_sem, seval, bC_eq, sC_eq, tkR_pure, tkR_len, E0_k, E0_n, E0_s, E0_kids, eR_nil] <;> (simp_all)) (by simp only [go_sem, seval, bC_eq, sC_eq, tkR_pure, tkR_len, E0_k, E0_n, E0_s, E0_kids, eR_nil])
  · refine AWp.skip ?_
    refine AWp.seq ?_
    refine AWp.rgn [call0 DR] (by simp only [go_sem, seval, bC_eq, sC_eq, tkR_pure, tkR_len, E0_k, E0_n, E0_s, E0_kids, eR_nil]; rfl) ?_ ?_
    · (first | trivial | (simp; done))
    refine AWp.seq ?_
    refine AWp.rgn [call0 (iBareOf_a s hs)] (by simp only [go_sem, seval, bC_eq, sC_eq, tkR_pure, tkR_len, E0_k, E0_n, E0_s, E0_kids, eR_nil]; rfl) ?_ ?_
    · (first | trivial | (simp; done))
    refine AWp.seq ?_
    refine AWp.seq ?_
    refine AWp.rgnD [call0 (sBareOf_a s hs), call0 (iBareSame_a _ _ hb hb)] enM (by simp only [go_sem, seval, bC_eq, sC_eq, tkR_pure, tkR_len, E0_k, E0_n, E0_s, E0_kids, eR_nil]; rfl) (by rfl) ?_ ?_
    · (first | trivial | (simp; done))
    refine AWp.condB (by simp only [go_sem, seval, bC_eq, sC_eq, tkR_pure, tkR_len, E0_k, E0_n, E0_s, E0_kids, eR_nil]; rfl) (by simp only [go_sem, seval, bC_eq, sC_eq, tkR_pure, tkR_len, E0_k, E0_n, E0_s, E0_kids, eR_nil]) (fun h19 => ?_) (fun h19 => ?_)
    · simp [bsame_refl] at h19
    · refine AWp.skip ?_
      refine AWp.seq ?_
      refine AWp.seq ?_
      refine AWp.rgn [call0 (sStmtOk_a s hs)] (by simp only [go_sem, seval, bC_eq, sC_eq, tkR_pure, tkR_len, E0_k, E0_n, E0_s, E0_kids, eR_nil]; rfl) ?_ ?_
      · (first | trivial | (simp; done))
      refine AWp.condB (by simp only [go_sem, seval, bC_eq, sC_eq, tkR_pure, tkR_len, E0_k, E0_n, E0_s, E0_kids, eR_nil]; rfl) (by simp only [go_sem, seval, bC_eq, sC_eq, tkR_pure, tkR_len, E0_k, E0_n, E0_s, E0_kids, eR_nil]) (fun h22 => ?_) (fun h22 => ?_)
      · refine AWp.seq ?_
        refine AWp.rgn [call0 (iBareSame_a _ B0 hb smb_B0)] (by simp only [go_sem, seval, bC_eq, sC_eq, tkR_pure, tkR_len, E0_k, E0_n, E0_s, E0_kids, eR_nil]; rfl) ?_ ?_
        · (first | trivial | (simp; done))
        refine AWp.ret (And.intro (.inr rfl) ?_)
        exact Out.plain (by simp only [Tryz.results6]; rfl) (by simp only [resCs, resC, go_sem, seval, bC_eq, sC_eq, tkR_pure, tkR_len, E0_k, E0_n, E0_s, E0_kids, eR_nil] <;> (split <;> rfl)) (by simp only [resV, go_sem, seval, bC_eq, sC_eq, tkR_pure, tkR_len, E0_k, E0_n, E0_s, E0_kids, eR_nil] <;> (simp only [Bool.not_eq_true'] at h22; rw [show bofOk s = B0 by simp [bofOk, h22], bsame_refl])) (by simp only [go_sem, seval, bC_eq, sC_eq, tkR_pure, tkR_len, E0_k, E0_n, E0_s, E0_kids, eR_nil])
      · refine AWp.skip ?_
        refine AWp.seq ?_
        refine AWp.rgn [call0 (iBareText_a _ hb), call0 TL] (by simp only [go_sem, seval, bC_eq, sC_eq, tkR_pure, tkR_len, E0_k, E0_n, E0_s, E0_kids, eR_nil]; rfl) ?_ ?_
        · (first | trivial | (simp; done))
        refine AWp.seq ?_
        refine AWp.seq ?_
        refine AWp.rgn [] (by simp only [go_sem, seval, bC_eq, sC_eq, tkR_pure, tkR_len, E0_k, E0_n, E0_s, E0_kids, eR_nil]; rfl) ?_ ?_
        · (first | trivial | (simp; done))
        refine AWp.block ?_
        refine AWp.loopK (fun k : Nat => ⟨[.no, .no, .no, .pt 13 11 0 0, .pt 14 10 0 0, .sl false (tkR ts), .b (tokLine (btxt (bofOk s))).isSome, .i .i64 k, .no, .no, .no, .no, .no, .no, .no, .no, .no, .no, .no, .no, .no, .no, .no, .no, .no, .no, .no, .no, .no, .no, .no, .no, .no, .no, .no, .no, .no, .no, .no, .no, .no, .no, .no, .no, .no, .no, .no, .no, .no, .no, .no, .no, .no, .no, .no, .no, .no, .no, .no, .no, .no, .no, .no, .no, .no, .no, .no, .no, .no, .no, .no, .no, .no, .no, .no, .no, .no, .no, .no, .no, .no, .no, .no, .no, .no, .no, .no, .no, .no, .no, .no, .no, .no, .no, .no, .no, .no, .no, .no, .no, .no, .no, .no, .no, .no, .no, .no, .no, .no, .no, .no, .no, .no, .no, .no, .no, .no, .no, .no, .no, .no], memOf [(13, ⟨42, 11, [sC s]⟩), (14, ⟨27, 10, [bC (bofOk s)]⟩)], us [13, 14]⟩) (fun k : Nat => k ≤ ts.length) (fun k : Nat => ts.length - k) (0) ?_ ?_ (fun k hI => ?_)
        · simp
        · exact Can.weak (Weak.lit (by simp only [go_sem, seval, bC_eq, sC_eq, tkR_pure, tkR_len, E0_k, E0_n, E0_s, E0_kids, eR_nil, subM, leV, inns, innr, V.inn, us, true_or, or_true] <;> (simp)) (by simp only [go_sem, seval, bC_eq, sC_eq, tkR_pure, tkR_len, E0_k, E0_n, E0_s, E0_kids, eR_nil, subM, leV, inns, innr, V.inn, us, true_or, or_true]) (by simp only [go_sem, seval, bC_eq, sC_eq, tkR_pure, tkR_len, E0_k, E0_n, E0_s, E0_kids, eR_nil, subM, leV, inns, innr, V.inn, us, true_or, or_true]))
        refine AWp.seq ?_
        refine AWp.seq ?_
        refine AWp.rgn [] (by simp only [go_sem, seval, bC_eq, sC_eq, tkR_pure, tkR_len, E0_k, E0_n, E0_s, E0_kids, eR_nil]; rfl) ?_ ?_
        · (first | trivial | (simp; done))
        refine AWp.condB (by simp only [go_sem, seval, bC_eq, sC_eq, tkR_pure, tkR_len, E0_k, E0_n, E0_s, E0_kids, eR_nil]; rfl) (by simp only [go_sem, seval, bC_eq, sC_eq, tkR_pure, tkR_len, E0_k, E0_n, E0_s, E0_kids, eR_nil]) (fun h35 => ?_) (fun h35 => ?_)
        · refine AWp.skip ?_
          refine AWp.seq ?_
          refine AWp.block ?_
          refine AWp.seq ?_
          refine AWp.rgn [] (by simp only [go_sem, seval, bC_eq, sC_eq, tkR_pure, tkR_len, E0_k, E0_n, E0_s, E0_kids, eR_nil, tkR_get (show k < ts.length by simpa using h35)]; rfl) ?_ ?_
          · have h35' : k < ts.length := (by simpa using h35); simp [h35']
          refine AWp.condB (by simp only [go_sem, seval, bC_eq, sC_eq, tkR_pure, tkR_len, E0_k, E0_n, E0_s, E0_kids, eR_nil]; rfl) (by simp only [go_sem, seval, bC_eq, sC_eq, tkR_pure, tkR_len, E0_k, E0_n, E0_s, E0_kids, eR_nil]) (fun h83 => ?_) (fun h83 => ?_)
          · have hk : k < ts.length := (by simpa using h35); have ho := hoff (by simpa using h22) k hk; simp only [Bool.or_eq_true, beq_iff_eq] at h83; simp only [offW, wAs, wLet, wSay, wWhen] at ho; exact absurd h83 (by simp only [not_or]; exact ⟨⟨⟨⟨⟨ho.1, ho.2.1⟩, ho.2.2.1⟩, ho.2.2.2.1⟩, ho.2.2.2.2.1⟩, ho.2.2.2.2.2⟩)
          · refine AWp.skip ?_
            refine AWp.rgn [] (by simp only [go_sem, seval, bC_eq, sC_eq, tkR_pure, tkR_len, E0_k, E0_n, E0_s, E0_kids, eR_nil]; rfl) ?_ ?_
            · (first | trivial | (simp; done))
            refine Exists.intro (k + 1) ⟨?_, ?_, ?_⟩
            · simp at h35; omega
            · simp at h35; omega
            exact Can.weak (Weak.lit (by simp only [go_sem, seval, bC_eq, sC_eq, tkR_pure, tkR_len, E0_k, E0_n, E0_s, E0_kids, eR_nil, subM, leV, inns, innr, V.inn, us, true_or, or_true] <;> (rw [wrap64 (by simp at h35; omega) (by simp at h35; omega)]; simp)) (by simp only [go_sem, seval, bC_eq, sC_eq, tkR_pure, tkR_len, E0_k, E0_n, E0_s, E0_kids, eR_nil, subM, leV, inns, innr, V.inn, us, true_or, or_true]) (by simp only [go_sem, seval, bC_eq, sC_eq, tkR_pure, tkR_len, E0_k, E0_n, E0_s, E0_kids, eR_nil, subM, leV, inns, innr, V.inn, us, true_or, or_true]))
        · refine AWp.exit ?_
          refine AWp.seq ?_
          refine AWp.rgnD [call0 (iBareOk_a _ hb), call0 (ExprBare_a s.expr s3), call0 (iExprSame_a _ _ hb2 (ebare_sm s3)), call0 (iBareText_a _ hb), call0 (iStmtText_a s hs)] enM (by simp only [go_sem, seval, bC_eq, sC_eq, tkR_pure, tkR_len, E0_k, E0_n, E0_s, E0_kids, eR_nil]; rfl) (by rfl) ?_ ?_
          · (first | trivial | (simp; done))
          refine AWp.ret (And.intro (.inr rfl) ?_)
          exact Out.plain (by simp only [Tryz.results6]; rfl) (by simp only [resCs, resC, go_sem, seval, bC_eq, sC_eq, tkR_pure, tkR_len, E0_k, E0_n, E0_s, E0_kids, eR_nil] <;> (split <;> rfl)) (by simp only [resV, go_sem, seval, bC_eq, sC_eq, tkR_pure, tkR_len, E0_k, E0_n, E0_s, E0_kids, eR_nil] <;> (rw [lawOf_end hst (by simpa using h22)])) (by simp only [go_sem, seval, bC_eq, sC_eq, tkR_pure, tkR_len, E0_k, E0_n, E0_s, E0_kids, eR_nil])
end Go.Proofs.YthljacdbmhonfaaGreatDoor
