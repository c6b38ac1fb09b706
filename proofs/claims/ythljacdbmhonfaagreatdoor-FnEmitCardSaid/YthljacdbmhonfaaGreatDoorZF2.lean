/- The law FnBareCast: what it answers. Conditions: none. -/
import Derived.Test.YthljacdbmhonfaaGreatDoorKl
set_option linter.unusedVariables false
set_option linter.unusedSimpArgs false
namespace Go.Proofs.YthljacdbmhonfaaGreatDoor
set_option maxRecDepth 100000
set_option maxHeartbeats 4000000

theorem bsame_refl (b : Bl) : bsame b b = true := (bsame_iff b b).2 rfl
/-- all of it let be a type: without types it is the same -/
theorem cast_bof {s : Sl} (h0 : s.kind ≠ 0) : bof { s with expr := .mk 4 0 [105, 110, 116] [s.expr] } = bof s := by
  simp [bof, h0, bare, bare1]
def castU (s : Sl) : Sl := if s.kind = 1 then { s with type := [98, 111, 111, 108] } else s
theorem castU_bof (s : Sl) : bof (castU s) = bof s := by unfold castU; split <;> rfl
theorem castU_kind (s : Sl) : (castU s).kind = s.kind := by unfold castU; split <;> rfl
theorem castU_name (s : Sl) : (castU s).name = s.name := by unfold castU; split <;> rfl
theorem castU_expr (s : Sl) : (castU s).expr = s.expr := by unfold castU; split <;> rfl
theorem castU_thn (s : Sl) : (castU s).thn = s.thn := by unfold castU; split <;> rfl
theorem castU_type (s : Sl) : (castU s).type = if s.kind = 1 then [98, 111, 111, 108] else s.type := by unfold castU; split <;> rfl
theorem castLaw {s : Sl} (h : (!bsame (bofOk s) (bofOk s) || !sok s || s.kind == 0) = false) : ((!sok { s with expr := .mk 4 0 [105, 110, 116] [s.expr] } || bsame (bofOk { s with expr := .mk 4 0 [105, 110, 116] [s.expr] }) (bofOk s)) && (!sok (castU s) || bsame (bofOk (castU s)) (bofOk s))) = true := by
  simp only [bsame_refl, Bool.or_eq_false_iff, Bool.not_eq_false', beq_eq_false_iff_ne] at h
  have hb1 : bofOk s = bof s := by simp [bofOk, h.1.2]
  simp only [Bool.and_eq_true, Bool.or_eq_true, Bool.not_eq_true']
  refine ⟨?_, ?_⟩
  · by_cases h1 : sok { s with expr := .mk 4 0 [105, 110, 116] [s.expr] } = true
    · right; rw [hb1, bofOk, if_pos h1, cast_bof h.2]; exact bsame_refl _
    · left; simpa using h1
  · by_cases h1 : sok (castU s) = true
    · right; rw [hb1, bofOk, if_pos h1, castU_bof]; exact bsame_refl _
    · left; simpa using h1
theorem lawBareCast_a (b : Str) : ACall En 5 [.sl false (byR b)] [] [.b true] [] := by
  have D := dl5_p (b.take 2000) (p := 0) (by decide) (by decide)
  generalize hx : (dl5 (b.take 2000) 0).1 = s at D
  have DR := DrawBareOf_a b
  rw [hx] at DR
  obtain ⟨_, _, hs⟩ := D
  obtain ⟨s1, s2, s3, s4⟩ := sms_open hs
  have hb := smb_bofOk hs
  have ht : sms' { s with expr := .mk 4 0 [105, 110, 116] [s.expr] } = true := by simp only [sms', s1, s2, s4, sm, sms, s3]; rfl
  have hu : sms' (castU s) = true := by unfold castU; split; (simp only [sms', s1, s3, s4]; rfl); exact hs
  have hbt := smb_bofOk ht
  have hbu := smb_bofOk hu
  refine acall_of_body (fn := Tryz.f5) [] Tryz.func5 rfl rfl (by simp) fun C => ?_
  rw [entry_eq]
  simp only [Tryz.ntmps5, List.length_cons, List.length_nil, Nat.reduceAdd, Nat.reduceSub, List.replicate_succ, List.replicate_zero, List.cons_append, List.nil_append, numL]
  refine AWp.seq ?_
  refine AWp.rgn [] (by simp only [go_sem, seval, bC_eq, sC_eq, castU_kind, castU_name, castU_expr, castU_thn, castU_type, E.kind_mk, E.n_mk, E.s_mk, E.kids_mk, eR]; rfl) ?_ ?_
  · (first | trivial | (simp; done))
  refine AWp.seq ?_
  refine AWp.seq ?_
  refine AWp.rgn [] (by simp only [go_sem, seval, bC_eq, sC_eq, castU_kind, castU_name, castU_expr, castU_thn, castU_type, E.kind_mk, E.n_mk, E.s_mk, E.kids_mk, eR]; rfl) ?_ ?_
  · (first | trivial | (simp; done))
  refine AWp.condB (by simp only [go_sem, seval, bC_eq, sC_eq, castU_kind, castU_name, castU_expr, castU_thn, castU_type, E.kind_mk, E.n_mk, E.s_mk, E.kids_mk, eR]; rfl) (by simp only [go_sem, seval, bC_eq, sC_eq, castU_kind, castU_name, castU_expr, castU_thn, castU_type, E.kind_mk, E.n_mk, E.s_mk, E.kids_mk, eR]) (fun h9 => ?_) (fun h9 => ?_)
  · refine AWp.seq ?_
    refine AWp.rgn [] (by simp only [go_sem, seval, bC_eq, sC_eq, castU_kind, castU_name, castU_expr, castU_thn, castU_type, E.kind_mk, E.n_mk, E.s_mk, E.kids_mk, eR]; rfl) ?_ ?_
    · (first | trivial | (simp; done))
    refine AWp.ret (And.intro (.inr rfl) ?_)
    exact Out.plain (by simp only [Tryz.results5]; rfl) (by simp only [resCs, resC, go_sem, seval, bC_eq, sC_eq, castU_kind, castU_name, castU_expr, castU_thn, castU_type, E.kind_mk, E.n_mk, E.s_mk, E.kids_mk, eR] <;> (split <;> rfl)) (by simp only [resV, go_sem, seval, bC_eq, sC_eq, castU_kind, castU_name, castU_expr, castU_thn, castU_type, E.kind_mk, E.n_mk, E.s_mk, E.kids_mk, eR] <;> (rfl)) (by simp only [go_sem, seval, bC_eq, sC_eq, castU_kind, castU_name, castU_expr, castU_thn, castU_type, E.kind_mk, E.n_mk, E.s_mk, E.kids_mk, eR])
  · refine AWp.skip ?_
    refine AWp.seq ?_
    refine AWp.rgn [call0 DR] (by simp only [go_sem, seval, bC_eq, sC_eq, castU_kind, castU_name, castU_expr, castU_thn, castU_type, E.kind_mk, E.n_mk, E.s_mk, E.kids_mk, eR]; rfl) ?_ ?_
    · (first | trivial | (simp; done))
    refine AWp.seq ?_
    refine AWp.rgn [call0 (iBareOf_a s hs)] (by simp only [go_sem, seval, bC_eq, sC_eq, castU_kind, castU_name, castU_expr, castU_thn, castU_type, E.kind_mk, E.n_mk, E.s_mk, E.kids_mk, eR]; rfl) ?_ ?_
    · (first | trivial | (simp; done))
    refine AWp.seq ?_
    refine AWp.seq ?_
    refine AWp.rgnD [call0 (sBareOf_a s hs), call0 (iBareSame_a _ _ hb hb), call0 (sStmtOk_a s hs)] enM (by simp only [go_sem, seval, bC_eq, sC_eq, castU_kind, castU_name, castU_expr, castU_thn, castU_type, E.kind_mk, E.n_mk, E.s_mk, E.kids_mk, eR]; rfl) (by rfl) ?_ ?_
    · (first | trivial | (simp; done))
    refine AWp.condB (by simp only [go_sem, seval, bC_eq, sC_eq, castU_kind, castU_name, castU_expr, castU_thn, castU_type, E.kind_mk, E.n_mk, E.s_mk, E.kids_mk, eR]; rfl) (by simp only [go_sem, seval, bC_eq, sC_eq, castU_kind, castU_name, castU_expr, castU_thn, castU_type, E.kind_mk, E.n_mk, E.s_mk, E.kids_mk, eR]) (fun h28 => ?_) (fun h28 => ?_)
    · refine AWp.seq ?_
      refine AWp.rgnD [call0 (sBareOf_a s hs), call0 (iBareSame_a _ _ hb hb)] enM (by simp only [go_sem, seval, bC_eq, sC_eq, castU_kind, castU_name, castU_expr, castU_thn, castU_type, E.kind_mk, E.n_mk, E.s_mk, E.kids_mk, eR]; rfl) (by rfl) ?_ ?_
      · (first | trivial | (simp; done))
      refine AWp.ret (And.intro (.inr rfl) ?_)
      exact Out.plain (by simp only [Tryz.results5]; rfl) (by simp only [resCs, resC, go_sem, seval, bC_eq, sC_eq, castU_kind, castU_name, castU_expr, castU_thn, castU_type, E.kind_mk, E.n_mk, E.s_mk, E.kids_mk, eR] <;> (split <;> rfl)) (by simp only [resV, go_sem, seval, bC_eq, sC_eq, castU_kind, castU_name, castU_expr, castU_thn, castU_type, E.kind_mk, E.n_mk, E.s_mk, E.kids_mk, eR] <;> (rw [bsame_refl])) (by simp only [go_sem, seval, bC_eq, sC_eq, castU_kind, castU_name, castU_expr, castU_thn, castU_type, E.kind_mk, E.n_mk, E.s_mk, E.kids_mk, eR])
    · refine AWp.skip ?_
      refine AWp.seq ?_
      refine AWp.rgn [] (by simp only [go_sem, seval, bC_eq, sC_eq, castU_kind, castU_name, castU_expr, castU_thn, castU_type, E.kind_mk, E.n_mk, E.s_mk, E.kids_mk, eR]; rfl) ?_ ?_
      · (first | trivial | (simp; done))
      refine AWp.seq ?_
      refine AWp.rgn [] (by simp only [go_sem, seval, bC_eq, sC_eq, castU_kind, castU_name, castU_expr, castU_thn, castU_type, E.kind_mk, E.n_mk, E.s_mk, E.kids_mk, eR]; rfl) ?_ ?_
      · (first | trivial | (simp; done))
      refine AWp.seq ?_
      refine AWp.rgn [] (by simp only [go_sem, seval, bC_eq, sC_eq, castU_kind, castU_name, castU_expr, castU_thn, castU_type, E.kind_mk, E.n_mk, E.s_mk, E.kids_mk, eR]; rfl) ?_ ?_
      · (first | trivial | (simp; done))
      refine AWp.seq ?_
      refine AWp.seq ?_
      refine AWp.rgn [] (by simp only [go_sem, seval, bC_eq, sC_eq, castU_kind, castU_name, castU_expr, castU_thn, castU_type, E.kind_mk, E.n_mk, E.s_mk, E.kids_mk, eR]; rfl) ?_ ?_
      · (first | trivial | (simp; done))
      refine AWp.condB (by simp only [go_sem, seval, bC_eq, sC_eq, castU_kind, castU_name, castU_expr, castU_thn, castU_type, E.kind_mk, E.n_mk, E.s_mk, E.kids_mk, eR]; rfl) (by simp only [go_sem, seval, bC_eq, sC_eq, castU_kind, castU_name, castU_expr, castU_thn, castU_type, E.kind_mk, E.n_mk, E.s_mk, E.kids_mk, eR]) (fun h42 => ?_) (fun h42 => ?_)
      · refine AWp.rgn [] (by simp only [go_sem, seval, bC_eq, sC_eq, castU_kind, castU_name, castU_expr, castU_thn, castU_type, E.kind_mk, E.n_mk, E.s_mk, E.kids_mk, eR]; rfl) ?_ ?_
        · (first | trivial | (simp; done))
        refine AWp.seq ?_
        refine AWp.rgnD [call0 (iStmtOk_a _ ht), call0 (iBareOf_a _ ht), call0 (iBareSame_a _ _ hbt hb), call0 (iStmtOk_a _ hu), call0 (iBareOf_a _ hu), call0 (iBareSame_a _ _ hbu hb)] enM (by simp only [go_sem, seval, bC_eq, sC_eq, castU_kind, castU_name, castU_expr, castU_thn, castU_type, E.kind_mk, E.n_mk, E.s_mk, E.kids_mk, eR]; rfl) (by rfl) ?_ ?_
        · simp at h42; simp [h42]; exact fun h => ⟨h, fun h2 => ⟨h, h2⟩⟩
        refine AWp.ret (And.intro (.inr rfl) ?_)
        exact Out.plain (by simp only [Tryz.results5]; rfl) (by simp only [resCs, resC, go_sem, seval, bC_eq, sC_eq, castU_kind, castU_name, castU_expr, castU_thn, castU_type, E.kind_mk, E.n_mk, E.s_mk, E.kids_mk, eR] <;> (split <;> rfl)) (by simp only [resV, go_sem, seval, bC_eq, sC_eq, castU_kind, castU_name, castU_expr, castU_thn, castU_type, E.kind_mk, E.n_mk, E.s_mk, E.kids_mk, eR] <;> (rw [castLaw h28])) (by simp only [go_sem, seval, bC_eq, sC_eq, castU_kind, castU_name, castU_expr, castU_thn, castU_type, E.kind_mk, E.n_mk, E.s_mk, E.kids_mk, eR])
      · refine AWp.skip ?_
        refine AWp.seq ?_
        refine AWp.rgnD [call0 (iStmtOk_a _ ht), call0 (iBareOf_a _ ht), call0 (iBareSame_a _ _ hbt hb), call0 (iStmtOk_a _ hu), call0 (iBareOf_a _ hu), call0 (iBareSame_a _ _ hbu hb)] enM (by simp only [go_sem, seval, bC_eq, sC_eq, castU_kind, castU_name, castU_expr, castU_thn, castU_type, E.kind_mk, E.n_mk, E.s_mk, E.kids_mk, eR]; rfl) (by rfl) ?_ ?_
        · simp at h42; simp [h42]; exact fun h => ⟨h, fun h2 => ⟨h, h2⟩⟩
        refine AWp.ret (And.intro (.inr rfl) ?_)
        exact Out.plain (by simp only [Tryz.results5]; rfl) (by simp only [resCs, resC, go_sem, seval, bC_eq, sC_eq, castU_kind, castU_name, castU_expr, castU_thn, castU_type, E.kind_mk, E.n_mk, E.s_mk, E.kids_mk, eR] <;> (split <;> rfl)) (by simp only [resV, go_sem, seval, bC_eq, sC_eq, castU_kind, castU_name, castU_expr, castU_thn, castU_type, E.kind_mk, E.n_mk, E.s_mk, E.kids_mk, eR] <;> (rw [castLaw h28])) (by simp only [go_sem, seval, bC_eq, sC_eq, castU_kind, castU_name, castU_expr, castU_thn, castU_type, E.kind_mk, E.n_mk, E.s_mk, E.kids_mk, eR])
end Go.Proofs.YthljacdbmhonfaaGreatDoor
