/- Parts of the proof, one after another: What programs say, as they are and turned into lines without types; what texts say, plainly. | What a text says: the program's BareAll. | What programs say: the program's ProgRun. Conditions: none. -/
import Derived.Test.YteihfmnmpdbkiaaGreatDoorKw
import Derived.Test.YteihfmnmpdbkiaaGreatDoorKr
import Derived.Test.YteihfmnmpdbkiaaGreatDoorKu
import Derived.Test.YteihfmnmpdbkiaaGreatDoorKq
set_option linter.unusedVariables false
set_option linter.unusedSimpArgs false
namespace Go.Proofs.YteihfmnmpdbkiaaGreatDoor
section
theorem rk_bare (d : Nat) : ∀ (e : E) (N : List Str) (M : List Int), form e d = true → rk (bare e) N M = rk e N M := by
  induction d with
  | zero => intro e N M h; have := (form_open h).1; omega
  | succ d ih =>
    intro e N M h
    have hd : ((d + 1 : Nat) : Int) - 1 = d := by omega
    have h0 := h
    rw [form_eq] at h0
    simp only [Bool.and_eq_true] at h0
    obtain ⟨⟨_, hsh⟩, hf⟩ := h0
    rw [hd] at hf
    by_cases k1 : e.kind = 1
    · have hk : e.kids = [] := by
        unfold shape at hsh; simp [k1] at hsh; exact hsh.2
      rw [bare_leaf (by omega) hk]
    by_cases k2 : e.kind = 2
    · have hk : e.kids = [] := by
        unfold shape at hsh; simp [k2] at hsh; exact hsh.2
      rw [bare_leaf (by omega) hk]
    by_cases k3 : e.kind = 3
    · have hk : e.kids.length = 2 := by
        unfold shape at hsh; simp [k3] at hsh; exact hsh.2
      have f0 := forms_mem hf _ (getD_mem (l := e.kids) (k := 0) (d := E0) (by omega))
      have f1 := forms_mem hf _ (getD_mem (l := e.kids) (k := 1) (d := E0) (by omega))
      rw [bare_two k3 hk, rk_two k3 hk, rk_two (by rfl) (by rfl)]
      show two2 e.s (rk (bare (e.kids.getD 0 E0)) N M) (rk (bare (e.kids.getD 1 E0)) N M) = _
      rw [ih _ N M f0, ih _ N M f1]
    by_cases k4 : e.kind = 4
    · have hk : e.kids.length = 1 := by
        unfold shape at hsh; simp [k4] at hsh; exact hsh.2
      have f0 := forms_mem hf _ (getD_mem (l := e.kids) (k := 0) (d := E0) (by omega))
      rw [bare_as k4 hk, rk_as k4 hk, ih _ N M f0]
    · unfold shape at hsh; simp [k1, k2, k3, k4] at hsh
abbrev ofS (s : Sl) : Bl := ⟨s.kind, s.name, s.expr, s.thn⟩
theorem sok_expr {s : Sl} (h : sok s = true) (k : ¬ s.kind = 0) : eok s.expr = true := by
  have h0 := (sok0_of h).1
  unfold sok0 at h0
  by_cases k1 : s.kind = 1
  · simp [k1] at h0; exact h0.1.2
  by_cases k2 : s.kind = 2
  · simp [k2] at h0; exact h0.1.2
  by_cases k3 : s.kind = 3
  · simp [k3] at h0; exact h0.1.2
  · simp [k, k1, k2, k3] at h0
theorem sok_thn {s : Sl} (h : sok s = true) (k : s.kind = 3) : eok s.thn = true := by
  have h0 := (sok0_of h).1
  unfold sok0 at h0
  simp [k] at h0; exact h0.2
theorem sok_kind {s : Sl} (h : sok s = true) : s.kind = 0 ∨ s.kind = 1 ∨ s.kind = 2 ∨ s.kind = 3 := by
  have h0 := (sok0_of h).1
  unfold sok0 at h0
  by_cases k0 : s.kind = 0
  · exact .inl k0
  by_cases k1 : s.kind = 1
  · exact .inr (.inl k1)
  by_cases k2 : s.kind = 2
  · exact .inr (.inr (.inl k2))
  by_cases k3 : s.kind = 3
  · exact .inr (.inr (.inr k3))
  · simp [k0, k1, k2, k3] at h0
theorem both_bof {s : Sl} (h : sok s = true) (k : ¬ s.kind = 0) (N : List Str) (M : List Int) : both (bof s) N M = both (ofS s) N M := by
  have e1 : rk (bof s).expr N M = rk s.expr N M := by
    show rk (if s.kind = 0 then E0 else bare s.expr) N M = _
    rw [if_neg k]; exact rk_bare 5 _ N M (eok_form (sok_expr h k))
  unfold both
  by_cases k3 : s.kind = 3
  · have e2 : rk (bof s).thn N M = rk s.thn N M := by
      show rk (if s.kind = 3 then bare s.thn else E0) N M = _
      rw [if_pos k3]; exact rk_bare 5 _ N M (eok_form (sok_thn h k3))
    rw [e1, e2]; rfl
  · have q1 : ¬ ((rk (bof s).expr N M).2 = true ∧ (bof s).kind = 3) := fun q => k3 q.2
    have q2 : ¬ ((rk (ofS s).expr N M).2 = true ∧ (ofS s).kind = 3) := fun q => k3 q.2
    rw [if_neg q1, if_neg q2, e1]
theorem step_bof {s : Sl} (h : sok s = true) (r : Rs) : stepR r (bof s) = stepR r (ofS s) := by
  by_cases k : s.kind = 0
  · rw [step_none (show (bof s).kind = 0 from k), step_none (show (ofS s).kind = 0 from k)]
  · unfold stepR
    rw [both_bof h k]; rfl
theorem fold_bof : ∀ (l : List Sl) (r : Rs), l.all sok = true → (l.map bof).foldl stepR r = (l.map ofS).foldl stepR r
  | [], _, _ => rfl
  | s :: l, r, h => by
    simp only [List.all_cons, Bool.and_eq_true] at h
    rw [List.map_cons, List.map_cons, List.foldl_cons, List.foldl_cons, step_bof h.1, fold_bof l _ h.2]
def prun (l : List Sl) : List Int × Bool := if pok l then ((runs (l.map ofS)).said, (runs (l.map ofS)).ok) else ([], false)
theorem pok_all {l : List Sl} (h : pok l = true) : l.all sok = true := by simp only [pok, Bool.and_eq_true] at h; exact h.2
theorem lok_bof {l : List Sl} (h : pok l = true) : lok (l.map bof) = true := by
  simp only [pok, Bool.and_eq_true] at h
  simp only [lok, List.length_map, h.1.1, h.1.2, Bool.true_and]
  rw [List.all_map]
  exact List.all_eq_true.2 fun s hs => bok_bof (List.all_eq_true.1 h.2 s hs)
theorem brun_bof {l : List Sl} (h : pok l = true) : brun (l.map bof) = prun l := by
  unfold brun prun runs
  rw [if_pos (lok_bof h), if_pos h, fold_bof l _ (pok_all h)]
theorem prun_bad {l : List Sl} (h : pok l = false) : prun l = ([], false) := by unfold prun; rw [h]; rfl
theorem prun_stop {l : List Sl} {k : Nat} (hl : pok l = true) (hk : k < l.length) (h : (runs ((l.map ofS).take k)).ok = true) (h0 : ¬ (l.getD k S0).kind = 0) (h2 : (both (ofS (l.getD k S0)) (runs ((l.map ofS).take k)).names (runs ((l.map ofS).take k)).nums).2.2 = false) : prun l = ((runs ((l.map ofS).take k)).said, false) := by
  have hk' : k < (l.map ofS).length := by rw [List.length_map]; exact hk
  have hg : (l.map ofS).getD k B0 = ofS (l.getD k S0) := by simp [List.getD_eq_getElem?_getD, List.getElem?_eq_getElem hk]
  have e := runs_take hk'
  rw [hg, step_stop h h0 h2] at e
  have e2 := runs_stop (l := l.map ofS) (k := k + 1) (by omega) (by rw [e])
  unfold prun; rw [if_pos hl, e2, e]
theorem prun_end {l : List Sl} {k : Nat} (hl : pok l = true) (hk : l.length ≤ k) (h : (runs ((l.map ofS).take k)).ok = true) : prun l = ((runs ((l.map ofS).take k)).said, true) := by
  rw [List.take_of_length_le (by rw [List.length_map]; exact hk)] at h ⊢
  unfold prun; rw [if_pos hl, h]
theorem ofS_get {l : List Sl} {k : Nat} (hk : k < l.length) : (l.map ofS).getD k B0 = ofS (l.getD k S0) := by simp [List.getD_eq_getElem?_getD, List.getElem?_eq_getElem hk]
def ball (s : Str) : List Int × Bool := if (tLines s).all (fun w => (bareR w).isSome) then brun ((tLines s).map fun w => (bareR w).getD B0) else ([], false)
theorem btext_iff {b : Bl} (h : bok b = true) : bareR (btext b) = some b := bareR_iff.2 ⟨h, rfl⟩
theorem ball_text {l : List Bl} (h : lok l = true) : ball (lnText (l.map btext)) = brun l := by
  have h0 := h
  simp only [lok, Bool.and_eq_true, decide_eq_true_eq] at h0
  obtain ⟨⟨h1, h2⟩, h3⟩ := h0
  have hb : ∀ b ∈ l, bok b = true := fun b hb => List.all_eq_true.1 h3 b hb
  have e : tLines (lnText (l.map btext)) = l.map btext := tLines_join (fun w hw => by obtain ⟨b, q, rfl⟩ := List.mem_map.1 hw; exact lnOk_btext (hb b q)) (by intro q; have := congrArg List.length q; rw [List.length_map] at this; simp only [List.length_nil] at this; omega) (by rw [List.length_map]; exact h2)
  unfold ball
  rw [e, if_pos (List.all_eq_true.2 fun w hw => by obtain ⟨b, q, rfl⟩ := List.mem_map.1 hw; rw [btext_iff (hb b q)]; rfl)]
  congr 1
  rw [List.map_map]
  conv => rhs; rw [← List.map_id l]
  exact List.map_congr_left fun b q => by show (bareR (btext b)).getD B0 = id b; rw [btext_iff (hb b q)]; rfl
theorem emT_btext {s : Sl} (h : sok s = true) : emT s = btext (bof s) := by unfold emT btext; rw [if_pos h]
theorem emText_lines {l : List Sl} (h : pok l = true) : emText l = lnText ((l.map bof).map btext) := by
  unfold emText; rw [if_pos h, List.map_map]
  congr 1
  exact List.map_congr_left fun s hs => emT_btext (List.all_eq_true.1 (pok_all h) s hs)
theorem ball_emText {l : List Sl} (h : pok l = true) : ball (emText l) = prun l := by
  rw [emText_lines h, ball_text (lok_bof h), brun_bof h]
theorem tLines_emText {l : List Sl} (h : pok l = true) : tLines (emText l) = l.map emT := by
  have hb : ∀ s ∈ l, sok s = true := fun s hs => List.all_eq_true.1 (pok_all h) s hs
  have h0 := pok_open h
  unfold emText; rw [if_pos h]
  exact tLines_join (fun w hw => by obtain ⟨s, q, rfl⟩ := List.mem_map.1 hw; rw [emT_btext (hb s q)]; exact lnOk_btext (bok_bof (hb s q))) (by intro q; have := congrArg List.length q; rw [List.length_map] at this; simp only [List.length_nil] at this; omega) (by rw [List.length_map]; exact h0.2.1)
end

section
set_option maxRecDepth 100000
set_option maxHeartbeats 4000000

def rdl (ls : List Str) : List Bl := ls.map fun w => (bareR w).getD B0
theorem rdl_len (ls : List Str) : (rdl ls).length = ls.length := by simp [rdl]
theorem rdl_get {ls : List Str} {k : Nat} (h : k < ls.length) : (rdl ls).getD k B0 = (bareR (ls.getD k [])).getD B0 := by
  simp [rdl, List.getD_eq_getElem?_getD, List.getElem?_eq_getElem h]
theorem rdl_sm (ls : List Str) : allB (rdl ls) = true := by
  refine List.all_eq_true.2 fun b hb => ?_
  obtain ⟨w, _, rfl⟩ := List.mem_map.1 hb
  obtain ⟨w1, w2⟩ := smW_wds w
  cases h : bareR w with
  | none => exact smb_B0
  | some b =>
    have : b = prdB (wdsOf w) := by
      by_cases hc : (tokLine w).isSome = true ∧ bok (prdB (wdsOf w)) = true ∧ btxt (prdB (wdsOf w)) = w
      · rw [bareR_some hc.1 hc.2.1 hc.2.2] at h; exact (Option.some.inj h).symm
      · rw [bareR_none hc] at h; cases h
    rw [this]; exact prdB_sm w1
theorem ball_bad {s : Str} {k : Nat} (hk : k < (tLines s).length) (h : (bareR ((tLines s).getD k [])).isSome = false) : ball s = ([], false) := by
  unfold ball
  rw [if_neg]
  intro q
  have := List.all_eq_true.1 q _ (getD_mem (d := []) hk)
  rw [h] at this; cases this
theorem ball_good {s : Str} (h : (tLines s).all (fun w => (bareR w).isSome) = true) : ball s = brun (rdl (tLines s)) := by unfold ball; rw [if_pos h]; rfl
theorem bLR_take {l : List Bl} {k : Nat} (hk : k < l.length) : bLR (l.take (k + 1)) = bLR (l.take k) ++ [bC (l.getD k B0)] := by
  rw [List.take_add_one, List.getElem?_eq_getElem hk, bLR_app, List.getD_eq_getElem?_getD, List.getElem?_eq_getElem hk]; rfl
theorem all_take {α : Type} {p : α → Bool} {l : List α} {k : Nat} {d : α} (h : k < l.length) : (l.take (k + 1)).all p = ((l.take k).all p && p (l.getD k d)) := by
  rw [List.take_add_one, List.getElem?_eq_getElem h, List.all_append, List.getD_eq_getElem?_getD, List.getElem?_eq_getElem h]; simp
theorem iBareAllO_a (s : Str) (hs : s.length ≤ 281474976710656) : ACall En 17 [.s s] [] [.ow 0 1 0 (ball s).1.length, .b (ball s).2] [⟨3, 1, inR (ball s).1⟩] := by
  have hL := tLines_len s
  have hM := tLines_mem s
  have hG := @ball_good s
  have hB := @ball_bad s
  generalize hT : tLines s = ls at *
  refine acall_of_body (fn := Tryz.f17) [33] Tryz.func17 rfl rfl (by simp) fun C => ?_
  rw [entry_eq]
  simp only [Tryz.ntmps17, List.length_cons, List.length_nil, Nat.reduceAdd, Nat.reduceSub, List.replicate_succ, List.replicate_zero, List.cons_append, List.nil_append, numL]
  refine AWp.seq ?_
  refine AWp.rgn [] (by simp only [go_sem, seval, strR_len, strR_pure, bLR_pure, bC_eq, inR_pure]; rfl) ?_ ?_
  · (first | trivial | (simp; done) | (simpa using h13) | (simp at h13; simp [bLR_len, rdl_len]; omega))
  refine AWp.seq ?_
  refine AWp.rgn [] (by simp only [go_sem, seval, strR_len, strR_pure, bLR_pure, bC_eq, inR_pure]; rfl) ?_ ?_
  · (first | trivial | (simp; done) | (simpa using h13) | (simp at h13; simp [bLR_len, rdl_len]; omega))
  refine AWp.seqJ (fun u : Unit => ⟨[.no, .no, .no, .no, .sl false (bLR (rdl ls)), .no, .no, .no, .no, .no, .no, .no, .no, .no, .no, .no, .no, .no, .no, .no, .no, .no, .no, .no, .no, .no, .no, .no, .no, .no, .no, .no], memOf [], us []⟩) (fun u : Unit => ls.all (fun w => (bareR w).isSome) = true) ?_ (fun u hJ => ?_)
  · refine AWp.seq ?_
    refine AWp.rgn [call0 (show ACall En 20 [.s s] [] [.sl false (strR ls)] [] from hT ▸ iTextLines_a s hs)] (by simp only [go_sem, seval, strR_len, strR_pure, bLR_pure, bC_eq, inR_pure]; rfl) ?_ ?_
    · (first | trivial | (simp; done) | (simpa using h13) | (simp at h13; simp [bLR_len, rdl_len]; omega))
    refine AWp.block ?_
    refine AWp.loopK (fun k : Nat => ⟨[.no, .no, .no, .no, .ow 20 10 0 k, .no, .no, .no, .no, .no, .sl false (strR ls), .i .i64 ls.length, .i .i64 k, .no, .no, .no, .no, .no, .no, .no, .no, .no, .no, .no, .no, .no, .no, .no, .no, .no, .no, .no], memOf [(20, ⟨64, 10, bLR ((rdl ls).take k)⟩)], us [20]⟩) (fun k : Nat => k ≤ ls.length ∧ (ls.take k).all (fun w => (bareR w).isSome) = true) (fun k : Nat => ls.length - k) (0) ?_ ?_ (fun k hI => ?_)
    · exact ⟨by simp, by simp⟩
    · refine Can.trans (Can.ownSlot 4 20 64 10 (by simp only [go_sem, seval, strR_len, strR_pure, bLR_pure, bC_eq, inR_pure] <;> rfl) (by simp only [go_sem, seval, strR_len, strR_pure, bLR_pure, bC_eq, inR_pure]) (by simp only [go_sem, seval, strR_len, strR_pure, bLR_pure, bC_eq, inR_pure] <;> rfl)) ?_
      exact Can.weak (Weak.lit (by simp only [go_sem, seval, strR_len, strR_pure, bLR_pure, bC_eq, inR_pure, subM, leV, inns, innr, V.inn, us, true_or, or_true] <;> (simp)) (by simp only [go_sem, seval, strR_len, strR_pure, bLR_pure, bC_eq, inR_pure, subM, leV, inns, innr, V.inn, us, true_or, or_true]) (by simp only [go_sem, seval, strR_len, strR_pure, bLR_pure, bC_eq, inR_pure, subM, leV, inns, innr, V.inn, us, true_or, or_true] <;> (simp [bLR])))
    refine AWp.seq ?_
    refine AWp.rgn [] (by simp only [go_sem, seval, strR_len, strR_pure, bLR_pure, bC_eq, inR_pure]; rfl) ?_ ?_
    · (first | trivial | (simp; done) | (simpa using h13) | (simp at h13; simp [bLR_len, rdl_len]; omega))
    refine AWp.seq ?_
    refine AWp.condB (by simp only [go_sem, seval, strR_len, strR_pure, bLR_pure, bC_eq, inR_pure]; rfl) (by simp only [go_sem, seval, strR_len, strR_pure, bLR_pure, bC_eq, inR_pure]) (fun h13 => ?_) (fun h13 => ?_)
    · refine AWp.skip ?_
      refine AWp.seq ?_
      refine AWp.block ?_
      refine AWp.seq ?_
      refine AWp.rgn [] (by simp only [go_sem, seval, strR_len, strR_pure, bLR_pure, bC_eq, inR_pure, strR_get (show k < ls.length by simpa using h13)]; rfl) ?_ ?_
      · (first | trivial | (simp; done) | (simpa using h13) | (simp at h13; simp [bLR_len, rdl_len]; omega))
      refine AWp.seq ?_
      refine AWp.rgn [callI (k < ls.length) (fun h => iBareRead_a (ls.getD k []) (by have := hM _ (getD_mem (d := []) h); omega))] (by simp only [go_sem, seval, strR_len, strR_pure, bLR_pure, bC_eq, inR_pure]; rfl) ?_ ?_
      · (first | trivial | (simp; done) | (simpa using h13) | (simp at h13; simp [bLR_len, rdl_len]; omega))
      refine AWp.seq ?_
      refine AWp.seq ?_
      refine AWp.rgn [] (by simp only [go_sem, seval, strR_len, strR_pure, bLR_pure, bC_eq, inR_pure]; rfl) ?_ ?_
      · (first | trivial | (simp; done) | (simpa using h13) | (simp at h13; simp [bLR_len, rdl_len]; omega))
      refine AWp.condB (by simp only [go_sem, seval, strR_len, strR_pure, bLR_pure, bC_eq, inR_pure]; rfl) (by simp only [go_sem, seval, strR_len, strR_pure, bLR_pure, bC_eq, inR_pure]) (fun h22 => ?_) (fun h22 => ?_)
      · refine AWp.seq ?_
        refine AWp.rgn [] (by simp only [go_sem, seval, strR_len, strR_pure, bLR_pure, bC_eq, inR_pure]; rfl) ?_ ?_
        · (first | trivial | (simp; done) | (simpa using h13) | (simp at h13; simp [bLR_len, rdl_len]; omega))
        refine AWp.can (Can.ownSlot 2 33 3 1 (by simp only [go_sem, seval, strR_len, strR_pure, bLR_pure, bC_eq, inR_pure] <;> rfl) (by simp only [go_sem, seval, strR_len, strR_pure, bLR_pure, bC_eq, inR_pure]) (by simp only [go_sem, seval, strR_len, strR_pure, bLR_pure, bC_eq, inR_pure] <;> rfl)) ?_
        refine AWp.ret (And.intro (.inr rfl) ?_)
        exact Out.mem' (by simp only [Tryz.results17]; rfl) (by simp only [resCs, resC, go_sem, seval, strR_len, strR_pure, bLR_pure, bC_eq, inR_pure]) (by simp only [resV, rns, rn, go_sem, seval, strR_len, strR_pure, bLR_pure, bC_eq, inR_pure] <;> (rw [hB (by simpa using h13) (by simpa using h22)]; simp)) (by simp) rfl (by decide) (by simp only [go_sem, seval, strR_len, strR_pure, bLR_pure, bC_eq, inR_pure]) (by simp only [clrs, go_sem, seval, strR_len, strR_pure, bLR_pure, bC_eq, inR_pure]) (by simp only [memEq, go_sem, seval, strR_len, strR_pure, bLR_pure, bC_eq, inR_pure] <;> (rw [hB (by simpa using h13) (by simpa using h22)]; simp [inR]))
      · refine AWp.skip ?_
        refine AWp.rgn [] (by simp only [go_sem, seval, strR_len, strR_pure, bLR_pure, bC_eq, inR_pure]; rfl) ?_ ?_
        · (first | trivial | (simp; done) | (simpa using h13) | (simp at h13; simp [bLR_len, rdl_len]; omega))
        refine AWp.rgn [] (by simp only [go_sem, seval, strR_len, strR_pure, bLR_pure, bC_eq, inR_pure]; rfl) ?_ ?_
        · (first | trivial | (simp; done) | (simpa using h13) | (simp at h13; simp [bLR_len, rdl_len]; omega))
        refine Exists.intro (k + 1) ⟨?_, ?_, ?_⟩
        · simp at h13; exact ⟨by omega, by rw [all_take (d := []) h13, hI.2]; simpa using h22⟩
        · simp at h13; omega
        refine Can.trans (Can.swap 36 20 (by decide) (by decide) (by decide) (by decide) (by simp only [go_sem, seval, strR_len, strR_pure, bLR_pure, bC_eq, inR_pure, V.cl]) (by simp only [go_sem, seval, strR_len, strR_pure, bLR_pure, bC_eq, inR_pure, V.cl]) (by simp only [go_sem, seval, strR_len, strR_pure, bLR_pure, bC_eq, inR_pure, swL_get, sw, swM, rnB] <;> rfl) (by simp only [go_sem, seval, strR_len, strR_pure, bLR_pure, bC_eq, inR_pure, swL_get, sw, swM, rnB] <;> rfl) (by simp only [go_sem, seval, strR_len, strR_pure, bLR_pure, bC_eq, inR_pure, swL_get, sw, swM, rnB] <;> rfl)) ?_
        exact Can.weak (Weak.lit (by simp only [go_sem, seval, strR_len, strR_pure, bLR_pure, bC_eq, inR_pure, subM, leV, inns, innr, V.inn, us, true_or, or_true] <;> (rw [wrap64 (by simp at h13; omega) (by simp at h13; omega)]; simp)) (by simp only [go_sem, seval, strR_len, strR_pure, bLR_pure, bC_eq, inR_pure, subM, leV, inns, innr, V.inn, us, true_or, or_true]) (by simp only [go_sem, seval, strR_len, strR_pure, bLR_pure, bC_eq, inR_pure, subM, leV, inns, innr, V.inn, us, true_or, or_true] <;> (simp at h13; rw [bLR_take (by rw [rdl_len]; exact h13), rdl_get h13]; simp [bC_eq])))
    · refine AWp.exit ?_
      refine Exists.intro (()) ⟨?_, ?_⟩
      · simp at h13; have h2 := hI.2; rw [List.take_of_length_le (by omega)] at h2; exact h2
      refine Can.trans (Can.frz 20 (by simp only [go_sem, seval, strR_len, strR_pure, bLR_pure, bC_eq, inR_pure] <;> rfl) (by simp only [go_sem, seval, strR_len, strR_pure, bLR_pure, bC_eq, inR_pure]) (by simp only [go_sem, seval, strR_len, strR_pure, bLR_pure, bC_eq, inR_pure] <;> rfl) (by simp only [go_sem, seval, strR_len, strR_pure, bLR_pure, bC_eq, inR_pure] <;> rfl)) ?_
      exact Can.weak (Weak.lit (by simp only [go_sem, seval, strR_len, strR_pure, bLR_pure, bC_eq, inR_pure, subM, leV, inns, innr, V.inn, us, true_or, or_true] <;> (simp at h13; (obtain rfl : k = ls.length := (by omega)); simp [List.take_of_length_le, rdl_len, bLR_len, leV, ler_refl])) (by simp only [go_sem, seval, strR_len, strR_pure, bLR_pure, bC_eq, inR_pure, subM, leV, inns, innr, V.inn, us, true_or, or_true]) (by simp only [go_sem, seval, strR_len, strR_pure, bLR_pure, bC_eq, inR_pure, subM, leV, inns, innr, V.inn, us, true_or, or_true]))
  refine AWp.seq ?_
  refine AWp.rgn [callN [] [33] (iBareRunO_a (rdl ls) (rdl_sm ls) (by rw [rdl_len]; omega))] (by simp only [go_sem, seval, strR_len, strR_pure, bLR_pure, bC_eq, inR_pure]; rfl) ?_ ?_
  · (first | trivial | (simp; done) | (simpa using h13) | (simp at h13; simp [bLR_len, rdl_len]; omega))
  refine AWp.ret (And.intro (.inr rfl) ?_)
  exact Out.mem' (by simp only [Tryz.results17]; rfl) (by simp only [resCs, resC, go_sem, seval, strR_len, strR_pure, bLR_pure, bC_eq, inR_pure]) (by simp only [resV, rns, rn, go_sem, seval, strR_len, strR_pure, bLR_pure, bC_eq, inR_pure] <;> (rw [hG hJ])) (by simp) rfl (by decide) (by simp only [go_sem, seval, strR_len, strR_pure, bLR_pure, bC_eq, inR_pure]) (by simp only [clrs, go_sem, seval, strR_len, strR_pure, bLR_pure, bC_eq, inR_pure]) (by simp only [memEq, go_sem, seval, strR_len, strR_pure, bLR_pure, bC_eq, inR_pure] <;> (rw [hG hJ]; (try simp [rnr_pure, inR_pure])))
theorem iBareAll_a (s : Str) (hs : s.length ≤ 281474976710656) : ACall En 17 [.s s] [] [.sl false (inR (ball s).1), .b (ball s).2] [] :=
  ACall.frz1 (iBareAllO_a s hs) (by simp [frzs, frz, inR_len, List.take_of_length_le])
end

section
set_option maxRecDepth 100000
set_option maxHeartbeats 4000000

theorem map_lt {l : List Sl} {k : Nat} (hk : k < l.length) : k < (l.map ofS).length := by rw [List.length_map]; exact hk
theorem pruns_lt {l : List Sl} {k : Nat} (hk : k ≤ l.length) (h16 : l.length ≤ 16) : (runs ((l.map ofS).take k)).names.length = (runs ((l.map ofS).take k)).nums.length ∧ (runs ((l.map ofS).take k)).names.length ≤ 16 ∧ (runs ((l.map ofS).take k)).said.length ≤ 16 := runs_lt (by rw [List.length_map]; exact hk) (by rw [List.length_map]; exact h16)
theorem pruns_none {l : List Sl} {k : Nat} (hk : k < l.length) (h : (l.getD k S0).kind = 0) : runs ((l.map ofS).take (k + 1)) = runs ((l.map ofS).take k) := runs_none (map_lt hk) (by rw [ofS_get hk]; exact h)
theorem pruns_let {l : List Sl} {k : Nat} (hk : k < l.length) (h : (runs ((l.map ofS).take k)).ok = true) (h1 : (l.getD k S0).kind = 1) (h2 : (both (ofS (l.getD k S0)) (runs ((l.map ofS).take k)).names (runs ((l.map ofS).take k)).nums).2.2 = true) :
    runs ((l.map ofS).take (k + 1)) = { runs ((l.map ofS).take k) with names := (runs ((l.map ofS).take k)).names ++ [(l.getD k S0).name], nums := (runs ((l.map ofS).take k)).nums ++ [(rk (l.getD k S0).expr (runs ((l.map ofS).take k)).names (runs ((l.map ofS).take k)).nums).1] } := by
  have := runs_let (map_lt hk) h (by rw [ofS_get hk]; exact h1) (by rw [ofS_get hk]; exact h2)
  rw [ofS_get hk] at this; exact this
theorem pruns_say {l : List Sl} {k : Nat} (hk : k < l.length) (h : (runs ((l.map ofS).take k)).ok = true) (h0 : ¬ (l.getD k S0).kind = 0) (h1 : ¬ (l.getD k S0).kind = 1) (h2 : (both (ofS (l.getD k S0)) (runs ((l.map ofS).take k)).names (runs ((l.map ofS).take k)).nums).2.2 = true) (h3 : (l.getD k S0).kind = 2 ∨ ¬ (rk (l.getD k S0).expr (runs ((l.map ofS).take k)).names (runs ((l.map ofS).take k)).nums).1 = 0) :
    runs ((l.map ofS).take (k + 1)) = { runs ((l.map ofS).take k) with said := (runs ((l.map ofS).take k)).said ++ [(both (ofS (l.getD k S0)) (runs ((l.map ofS).take k)).names (runs ((l.map ofS).take k)).nums).2.1] } := by
  have := runs_say (map_lt hk) h (by rw [ofS_get hk]; exact h0) (by rw [ofS_get hk]; exact h1) (by rw [ofS_get hk]; exact h2) (by rw [ofS_get hk]; exact h3)
  rw [ofS_get hk] at this; exact this
theorem pruns_mute {l : List Sl} {k : Nat} (hk : k < l.length) (h : (runs ((l.map ofS).take k)).ok = true) (h0 : ¬ (l.getD k S0).kind = 0) (h1 : ¬ (l.getD k S0).kind = 1) (h2 : (both (ofS (l.getD k S0)) (runs ((l.map ofS).take k)).names (runs ((l.map ofS).take k)).nums).2.2 = true) (h3 : ¬ (l.getD k S0).kind = 2) (h4 : (rk (l.getD k S0).expr (runs ((l.map ofS).take k)).names (runs ((l.map ofS).take k)).nums).1 = 0) :
    runs ((l.map ofS).take (k + 1)) = runs ((l.map ofS).take k) := runs_mute (map_lt hk) h (by rw [ofS_get hk]; exact h0) (by rw [ofS_get hk]; exact h1) (by rw [ofS_get hk]; exact h2) (by rw [ofS_get hk]; exact h3) (by rw [ofS_get hk]; exact h4)
theorem iProgRunO_a (l : List Sl) (hs : allS l = true) (hl : l.length < 4611686018427387904) : ACall En 33 [.sl false (sR l)] [] [.ow 0 1 0 (prun l).1.length, .b (prun l).2] [⟨3, 1, inR (prun l).1⟩] := by
  have F1 : ∀ k, pok l = true → k < l.length → ¬ (l.getD k S0).kind = 0 → form (l.getD k S0).expr ((5 : Nat) : Int) = true := fun k h hk hk0 => eok_form (sok_expr ((pok_open h).2.2 k hk) hk0)
  have F2 : ∀ k, pok l = true → k < l.length → (l.getD k S0).kind = 3 → form (l.getD k S0).thn ((5 : Nat) : Int) = true := fun k h hk hk0 => eok_form (sok_thn ((pok_open h).2.2 k hk) hk0)
  refine acall_of_body (fn := Tryz.f33) [22] Tryz.func33 rfl rfl (by simp) fun C => ?_
  rw [entry_eq]
  simp only [Tryz.ntmps33, List.length_cons, List.length_nil, Nat.reduceAdd, Nat.reduceSub, List.replicate_succ, List.replicate_zero, List.cons_append, List.nil_append, numL]
  refine AWp.seq ?_
  refine AWp.rgn [] (by simp only [go_sem, seval, sR_len, sR_pure, inR_len, inR_pure, sC_eq]; rfl) ?_ ?_
  · (first | trivial | (simp; done))
  refine AWp.seq ?_
  refine AWp.seq ?_
  refine AWp.rgn [call0 (iProgOk_a l hs hl)] (by simp only [go_sem, seval, sR_len, sR_pure, inR_len, inR_pure, sC_eq]; rfl) ?_ ?_
  · (first | trivial | (simp; done))
  refine AWp.condB (by simp only [go_sem, seval, sR_len, sR_pure, inR_len, inR_pure, sC_eq]; rfl) (by simp only [go_sem, seval, sR_len, sR_pure, inR_len, inR_pure, sC_eq]) (fun h14 => ?_) (fun h14 => ?_)
  · refine AWp.seq ?_
    refine AWp.rgn [] (by simp only [go_sem, seval, sR_len, sR_pure, inR_len, inR_pure, sC_eq]; rfl) ?_ ?_
    · (first | trivial | (simp; done))
    refine AWp.can (Can.ownSlot 2 22 3 1 (by simp only [go_sem, seval, sR_len, sR_pure, inR_len, inR_pure, sC_eq] <;> rfl) (by simp only [go_sem, seval, sR_len, sR_pure, inR_len, inR_pure, sC_eq]) (by simp only [go_sem, seval, sR_len, sR_pure, inR_len, inR_pure, sC_eq] <;> rfl)) ?_
    refine AWp.ret (And.intro (.inr rfl) ?_)
    exact Out.mem' (by simp only [Tryz.results33]; rfl) (by simp only [resCs, resC, go_sem, seval, sR_len, sR_pure, inR_len, inR_pure, sC_eq]) (by simp only [resV, rns, rn, go_sem, seval, sR_len, sR_pure, inR_len, inR_pure, sC_eq] <;> (rw [prun_bad (by simpa using h14)]; try simp)) (by simp) rfl (by decide) (by simp only [go_sem, seval, sR_len, sR_pure, inR_len, inR_pure, sC_eq]) (by simp only [clrs, go_sem, seval, sR_len, sR_pure, inR_len, inR_pure, sC_eq]) (by simp only [memEq, go_sem, seval, sR_len, sR_pure, inR_len, inR_pure, sC_eq] <;> (rw [prun_bad (by simpa using h14)]; simp [inR]))
  · refine AWp.skip ?_
    refine AWp.seq ?_
    refine AWp.rgn [] (by simp only [go_sem, seval, sR_len, sR_pure, inR_len, inR_pure, sC_eq]; rfl) ?_ ?_
    · (first | trivial | (simp; done))
    refine AWp.seq ?_
    refine AWp.rgn [] (by simp only [go_sem, seval, sR_len, sR_pure, inR_len, inR_pure, sC_eq]; rfl) ?_ ?_
    · (first | trivial | (simp; done))
    refine AWp.seq ?_
    refine AWp.seq ?_
    refine AWp.rgn [] (by simp only [go_sem, seval, sR_len, sR_pure, inR_len, inR_pure, sC_eq]; rfl) ?_ ?_
    · (first | trivial | (simp; done))
    refine AWp.block ?_
    refine AWp.loopK (fun k : Nat => ⟨[.no, .no, .no, .no, .ow 20 1 0 (runs ((l.map ofS).take k)).names.length, .ow 21 1 0 (runs ((l.map ofS).take k)).nums.length, .ow 22 1 0 (runs ((l.map ofS).take k)).said.length, .no, .no, .no, .no, .no, .no, .no, .no, .sl false (sR l), .i .i64 l.length, .i .i64 k, .no, .no, .no, .no, .no, .no, .no, .no, .no, .no, .no, .no, .no, .no, .no, .no, .no, .no, .no, .no, .no, .no, .no, .no, .no, .no, .no, .no, .no, .no, .no, .no, .no, .no, .no, .no, .no, .no, .no, .no, .no, .no, .no, .no, .no, .no, .no, .no, .no, .no, .no, .no, .no, .no, .no, .no, .no, .no, .no, .no, .no, .no], memOf [(20, ⟨9, 1, strR (runs ((l.map ofS).take k)).names⟩), (21, ⟨3, 1, inR (runs ((l.map ofS).take k)).nums⟩), (22, ⟨3, 1, inR (runs ((l.map ofS).take k)).said⟩)], us [20, 21, 22]⟩) (fun k : Nat => k ≤ l.length ∧ (runs ((l.map ofS).take k)).ok = true ∧ pok l = true) (fun k : Nat => l.length - k) (0) ?_ ?_ (fun k hI => ?_)
    · exact ⟨Nat.zero_le _, by simp [runs], by simpa using h14⟩
    · refine Can.trans (Can.ownSlot 4 20 9 1 (by simp only [go_sem, seval, sR_len, sR_pure, inR_len, inR_pure, sC_eq] <;> rfl) (by simp only [go_sem, seval, sR_len, sR_pure, inR_len, inR_pure, sC_eq]) (by simp only [go_sem, seval, sR_len, sR_pure, inR_len, inR_pure, sC_eq] <;> rfl)) ?_
      refine Can.trans (Can.ownSlot 5 21 3 1 (by simp only [go_sem, seval, sR_len, sR_pure, inR_len, inR_pure, sC_eq] <;> rfl) (by simp only [go_sem, seval, sR_len, sR_pure, inR_len, inR_pure, sC_eq]) (by simp only [go_sem, seval, sR_len, sR_pure, inR_len, inR_pure, sC_eq] <;> rfl)) ?_
      refine Can.trans (Can.ownSlot 6 22 3 1 (by simp only [go_sem, seval, sR_len, sR_pure, inR_len, inR_pure, sC_eq] <;> rfl) (by simp only [go_sem, seval, sR_len, sR_pure, inR_len, inR_pure, sC_eq]) (by simp only [go_sem, seval, sR_len, sR_pure, inR_len, inR_pure, sC_eq] <;> rfl)) ?_
      exact Can.weak (Weak.lit (by simp only [go_sem, seval, sR_len, sR_pure, inR_len, inR_pure, sC_eq, subM, leV, inns, innr, V.inn, us, true_or, or_true] <;> (simp [runs])) (by simp only [go_sem, seval, sR_len, sR_pure, inR_len, inR_pure, sC_eq, subM, leV, inns, innr, V.inn, us, true_or, or_true]) (by simp only [go_sem, seval, sR_len, sR_pure, inR_len, inR_pure, sC_eq, subM, leV, inns, innr, V.inn, us, true_or, or_true] <;> (simp [runs, strR, inR])))
    refine AWp.seq ?_
    refine AWp.rgn [] (by simp only [go_sem, seval, sR_len, sR_pure, inR_len, inR_pure, sC_eq]; rfl) ?_ ?_
    · (first | trivial | (simp; done))
    refine AWp.seq ?_
    refine AWp.condB (by simp only [go_sem, seval, sR_len, sR_pure, inR_len, inR_pure, sC_eq]; rfl) (by simp only [go_sem, seval, sR_len, sR_pure, inR_len, inR_pure, sC_eq]) (fun h18 => ?_) (fun h18 => ?_)
    · refine AWp.skip ?_
      refine AWp.seq ?_
      refine AWp.block ?_
      refine AWp.seq ?_
      refine AWp.rgn [] (by simp only [go_sem, seval, sR_len, sR_pure, inR_len, inR_pure, sC_eq, sR_get (show k < l.length by simpa using h18), sC_eq]; rfl) ?_ ?_
      · simp at h18; simp; omega
      refine AWp.seq ?_
      refine AWp.seq ?_
      refine AWp.rgn [] (by simp only [go_sem, seval, sR_len, sR_pure, inR_len, inR_pure, sC_eq]; rfl) ?_ ?_
      · (first | trivial | (simp; done))
      refine AWp.condB (by simp only [go_sem, seval, sR_len, sR_pure, inR_len, inR_pure, sC_eq]; rfl) (by simp only [go_sem, seval, sR_len, sR_pure, inR_len, inR_pure, sC_eq]) (fun h23 => ?_) (fun h23 => ?_)
      · refine AWp.exit ?_
        refine AWp.rgn [] (by simp only [go_sem, seval, sR_len, sR_pure, inR_len, inR_pure, sC_eq]; rfl) ?_ ?_
        · (first | trivial | (simp; done))
        refine Exists.intro (k + 1) ⟨?_, ?_, ?_⟩
        · have hk : k < l.length := (by simpa using h18); have e := pruns_none hk (by simpa using h23); exact ⟨by omega, by rw [e]; exact hI.2.1, hI.2.2⟩
        · simp at h18; omega
        exact Can.weak (Weak.lit (by simp only [go_sem, seval, sR_len, sR_pure, inR_len, inR_pure, sC_eq, subM, leV, inns, innr, V.inn, us, true_or, or_true] <;> ((have hk : k < l.length := (by simpa using h18)); (have e := pruns_none hk (by simpa using h23)); rw [e, wrap64 (by omega) (by omega)]; simp)) (by simp only [go_sem, seval, sR_len, sR_pure, inR_len, inR_pure, sC_eq, subM, leV, inns, innr, V.inn, us, true_or, or_true]) (by simp only [go_sem, seval, sR_len, sR_pure, inR_len, inR_pure, sC_eq, subM, leV, inns, innr, V.inn, us, true_or, or_true] <;> ((have hk : k < l.length := (by simpa using h18)); (have e := pruns_none hk (by simpa using h23)); rw [e]; simp)))
      · refine AWp.skip ?_
        refine AWp.seq ?_
        refine AWp.rgn [callB (reckon_a 5 (l.getD k S0).expr (runs ((l.map ofS).take k)).names (runs ((l.map ofS).take k)).nums (F1 k hI.2.2 (by simpa using h18) (by simpa using h23)) (pruns_lt hI.1 (pok_open hI.2.2).2.1).1 (by have := (pruns_lt hI.1 (pok_open hI.2.2).2.1).2.1; omega))] (by simp only [go_sem, seval, sR_len, sR_pure, inR_len, inR_pure, sC_eq]; rfl) ?_ ?_
        · (first | (simp [List.take_of_length_le, strR_len, inR_len, ler_refl]; done))
        refine AWp.seq ?_
        refine AWp.rgn [] (by simp only [go_sem, seval, sR_len, sR_pure, inR_len, inR_pure, sC_eq]; rfl) ?_ ?_
        · (first | trivial | (simp; done))
        refine AWp.seqJ (fun q : Int × Bool => ⟨[.no, .no, .no, .no, .ow 20 1 0 (runs ((l.map ofS).take k)).names.length, .ow 21 1 0 (runs ((l.map ofS).take k)).nums.length, .ow 22 1 0 (runs ((l.map ofS).take k)).said.length, .no, .pt 18 11 0 0, .i .i64 (rk (l.getD k S0).expr (runs ((l.map ofS).take k)).names (runs ((l.map ofS).take k)).nums).1, .b q.2, .i .i64 q.1, .no, .no, .no, .sl false (sR l), .i .i64 l.length, .i .i64 k, .no, .no, .no, .no, .no, .no, .no, .no, .no, .no, .no, .no, .no, .no, .no, .no, .no, .no, .no, .no, .no, .no, .no, .no, .no, .no, .no, .no, .no, .no, .no, .no, .no, .no, .no, .no, .no, .no, .no, .no, .no, .no, .no, .no, .no, .no, .no, .no, .no, .no, .no, .no, .no, .no, .no, .no, .no, .no, .no, .no, .no, .no], memOf [(18, ⟨32, 11, [sC (l.getD k S0)]⟩), (20, ⟨9, 1, strR (runs ((l.map ofS).take k)).names⟩), (21, ⟨3, 1, inR (runs ((l.map ofS).take k)).nums⟩), (22, ⟨3, 1, inR (runs ((l.map ofS).take k)).said⟩)], us [20, 21, 22, 18]⟩) (fun q : Int × Bool => q = ((both (ofS (l.getD k S0)) (runs ((l.map ofS).take k)).names (runs ((l.map ofS).take k)).nums).2.1, (both (ofS (l.getD k S0)) (runs ((l.map ofS).take k)).names (runs ((l.map ofS).take k)).nums).2.2)) ?_ (fun q hJ => ?_)
        · refine AWp.seq ?_
          refine AWp.rgn [] (by simp only [go_sem, seval, sR_len, sR_pure, inR_len, inR_pure, sC_eq]; rfl) ?_ ?_
          · (first | trivial | (simp; done))
          refine AWp.condB (by simp only [go_sem, seval, sR_len, sR_pure, inR_len, inR_pure, sC_eq]; rfl) (by simp only [go_sem, seval, sR_len, sR_pure, inR_len, inR_pure, sC_eq]) (fun h38 => ?_) (fun h38 => ?_)
          · refine AWp.rgn [callB (reckon_a 5 (l.getD k S0).thn (runs ((l.map ofS).take k)).names (runs ((l.map ofS).take k)).nums (F2 k hI.2.2 (by simpa using h18) (by simp at h38; exact h38.2)) (pruns_lt hI.1 (pok_open hI.2.2).2.1).1 (by have := (pruns_lt hI.1 (pok_open hI.2.2).2.1).2.1; omega))] (by simp only [go_sem, seval, sR_len, sR_pure, inR_len, inR_pure, sC_eq]; rfl) ?_ ?_
            · (first | (simp [List.take_of_length_le, strR_len, inR_len, ler_refl]; done))
            refine Exists.intro (((rk (l.getD k S0).thn (runs ((l.map ofS).take k)).names (runs ((l.map ofS).take k)).nums).1, (rk (l.getD k S0).thn (runs ((l.map ofS).take k)).names (runs ((l.map ofS).take k)).nums).2)) ⟨?_, ?_⟩
            · unfold both; first | (rw [if_pos (by simp at h38 ⊢; exact h38)]; done) | (rw [if_neg (by simp at h38 ⊢; exact h38)]; done)
            exact Can.weak (Weak.lit (by simp only [go_sem, seval, sR_len, sR_pure, inR_len, inR_pure, sC_eq, subM, leV, inns, innr, V.inn, us, true_or, or_true]) (by simp only [go_sem, seval, sR_len, sR_pure, inR_len, inR_pure, sC_eq, subM, leV, inns, innr, V.inn, us, true_or, or_true]) (by simp only [go_sem, seval, sR_len, sR_pure, inR_len, inR_pure, sC_eq, subM, leV, inns, innr, V.inn, us, true_or, or_true]))
          · refine AWp.skip ?_
            refine Exists.intro (((rk (l.getD k S0).expr (runs ((l.map ofS).take k)).names (runs ((l.map ofS).take k)).nums).1, (rk (l.getD k S0).expr (runs ((l.map ofS).take k)).names (runs ((l.map ofS).take k)).nums).2)) ⟨?_, ?_⟩
            · unfold both; first | (rw [if_pos (by simp at h38 ⊢; exact h38)]; done) | (rw [if_neg (by simp at h38 ⊢; exact h38)]; done)
            exact Can.weak (Weak.lit (by simp only [go_sem, seval, sR_len, sR_pure, inR_len, inR_pure, sC_eq, subM, leV, inns, innr, V.inn, us, true_or, or_true]) (by simp only [go_sem, seval, sR_len, sR_pure, inR_len, inR_pure, sC_eq, subM, leV, inns, innr, V.inn, us, true_or, or_true]) (by simp only [go_sem, seval, sR_len, sR_pure, inR_len, inR_pure, sC_eq, subM, leV, inns, innr, V.inn, us, true_or, or_true]))
        refine AWp.block ?_
        refine AWp.seq ?_
        refine AWp.rgn [] (by simp only [go_sem, seval, sR_len, sR_pure, inR_len, inR_pure, sC_eq]; rfl) ?_ ?_
        · (first | trivial | (simp; done))
        refine AWp.condB (by simp only [go_sem, seval, sR_len, sR_pure, inR_len, inR_pure, sC_eq]; rfl) (by simp only [go_sem, seval, sR_len, sR_pure, inR_len, inR_pure, sC_eq]) (fun h47 => ?_) (fun h47 => ?_)
        · refine AWp.seq ?_
          refine AWp.rgn [callN [22] [] (ClipInt_a (runs ((l.map ofS).take k)).said (runs ((l.map ofS).take k)).said.length rfl (by have := (pruns_lt hI.1 (pok_open hI.2.2).2.1).2.2; omega))] (by simp only [go_sem, seval, sR_len, sR_pure, inR_len, inR_pure, sC_eq]; rfl) ?_ ?_
          · (first | trivial | (simp; done))
          refine AWp.ret (And.intro (.inr rfl) ?_)
          exact Out.mem' (by simp only [Tryz.results33]; rfl) (by simp only [resCs, resC, go_sem, seval, sR_len, sR_pure, inR_len, inR_pure, sC_eq]) (by simp only [resV, rns, rn, go_sem, seval, sR_len, sR_pure, inR_len, inR_pure, sC_eq] <;> (rw [prun_stop hI.2.2 (by simpa using h18) hI.2.1 (by simpa using h23) (by rw [hJ] at h47; simpa using h47)]; try simp)) (by simp) rfl (by decide) (by simp only [go_sem, seval, sR_len, sR_pure, inR_len, inR_pure, sC_eq]) (by simp only [clrs, go_sem, seval, sR_len, sR_pure, inR_len, inR_pure, sC_eq]) (by simp only [memEq, go_sem, seval, sR_len, sR_pure, inR_len, inR_pure, sC_eq] <;> (rw [prun_stop hI.2.2 (by simpa using h18) hI.2.1 (by simpa using h23) (by rw [hJ] at h47; simpa using h47)]; (try simp [rnr_pure, inR_pure])))
        · refine AWp.seq ?_
          refine AWp.rgn [] (by simp only [go_sem, seval, sR_len, sR_pure, inR_len, inR_pure, sC_eq]; rfl) ?_ ?_
          · (first | trivial | (simp; done))
          refine AWp.condB (by simp only [go_sem, seval, sR_len, sR_pure, inR_len, inR_pure, sC_eq]; rfl) (by simp only [go_sem, seval, sR_len, sR_pure, inR_len, inR_pure, sC_eq]) (fun h52 => ?_) (fun h52 => ?_)
          · refine AWp.rgn [] (by simp only [go_sem, seval, sR_len, sR_pure, inR_len, inR_pure, sC_eq]; rfl) ?_ ?_
            · have := pruns_lt hI.1 (pok_open hI.2.2).2.1; simp; omega
            refine AWp.rgn [] (by simp only [go_sem, seval, sR_len, sR_pure, inR_len, inR_pure, sC_eq]; rfl) ?_ ?_
            · (first | trivial | (simp; done))
            refine Exists.intro (k + 1) ⟨?_, ?_, ?_⟩
            · have hk : k < l.length := (by simpa using h18); have e := pruns_let hk hI.2.1 (by simpa using h52) (by rw [hJ] at h47; simpa using h47); exact ⟨by omega, by rw [e]; exact hI.2.1, hI.2.2⟩
            · simp at h18; omega
            refine Can.trans (Can.swap 70 20 (by decide) (by decide) (by decide) (by decide) (by simp only [go_sem, seval, sR_len, sR_pure, inR_len, inR_pure, sC_eq, V.cl]) (by simp only [go_sem, seval, sR_len, sR_pure, inR_len, inR_pure, sC_eq, V.cl]) (by simp only [go_sem, seval, sR_len, sR_pure, inR_len, inR_pure, sC_eq, swL_get, sw, swM, rnB] <;> rfl) (by simp only [go_sem, seval, sR_len, sR_pure, inR_len, inR_pure, sC_eq, swL_get, sw, swM, rnB] <;> rfl) (by simp only [go_sem, seval, sR_len, sR_pure, inR_len, inR_pure, sC_eq, swL_get, sw, swM, rnB] <;> rfl)) ?_
            refine Can.trans (Can.swap 74 21 (by decide) (by decide) (by decide) (by decide) (by simp only [go_sem, seval, sR_len, sR_pure, inR_len, inR_pure, sC_eq, V.cl]) (by simp only [go_sem, seval, sR_len, sR_pure, inR_len, inR_pure, sC_eq, V.cl]) (by simp only [go_sem, seval, sR_len, sR_pure, inR_len, inR_pure, sC_eq, swL_get, sw, swM, rnB] <;> rfl) (by simp only [go_sem, seval, sR_len, sR_pure, inR_len, inR_pure, sC_eq, swL_get, sw, swM, rnB] <;> rfl) (by simp only [go_sem, seval, sR_len, sR_pure, inR_len, inR_pure, sC_eq, swL_get, sw, swM, rnB] <;> rfl)) ?_
            exact Can.weak (Weak.lit (by simp only [go_sem, seval, sR_len, sR_pure, inR_len, inR_pure, sC_eq, subM, leV, inns, innr, V.inn, us, true_or, or_true] <;> ((have hk : k < l.length := (by simpa using h18)); (have e := pruns_let hk hI.2.1 (by simpa using h52) (by rw [hJ] at h47; simpa using h47)); rw [e, wrap64 (by omega) (by omega)]; simp)) (by simp only [go_sem, seval, sR_len, sR_pure, inR_len, inR_pure, sC_eq, subM, leV, inns, innr, V.inn, us, true_or, or_true]) (by simp only [go_sem, seval, sR_len, sR_pure, inR_len, inR_pure, sC_eq, subM, leV, inns, innr, V.inn, us, true_or, or_true] <;> ((have hk : k < l.length := (by simpa using h18)); (have e := pruns_let hk hI.2.1 (by simpa using h52) (by rw [hJ] at h47; simpa using h47)); rw [e]; simp [strR_snoc1, inR_snoc1])))
          · refine AWp.seq ?_
            refine AWp.rgn [] (by simp only [go_sem, seval, sR_len, sR_pure, inR_len, inR_pure, sC_eq]; rfl) ?_ ?_
            · (first | trivial | (simp; done))
            refine AWp.condB (by simp only [go_sem, seval, sR_len, sR_pure, inR_len, inR_pure, sC_eq]; rfl) (by simp only [go_sem, seval, sR_len, sR_pure, inR_len, inR_pure, sC_eq]) (fun h65 => ?_) (fun h65 => ?_)
            · refine AWp.rgn [] (by simp only [go_sem, seval, sR_len, sR_pure, inR_len, inR_pure, sC_eq]; rfl) ?_ ?_
              · have := pruns_lt hI.1 (pok_open hI.2.2).2.1; simp; omega
              refine AWp.rgn [] (by simp only [go_sem, seval, sR_len, sR_pure, inR_len, inR_pure, sC_eq]; rfl) ?_ ?_
              · (first | trivial | (simp; done))
              refine Exists.intro (k + 1) ⟨?_, ?_, ?_⟩
              · have hk : k < l.length := (by simpa using h18); have e := pruns_say hk hI.2.1 (by simpa using h23) (by simpa using h52) (by rw [hJ] at h47; simpa using h47) (by simp at h65; exact h65); exact ⟨by omega, by rw [e]; exact hI.2.1, hI.2.2⟩
              · simp at h18; omega
              refine Can.trans (Can.swap 86 22 (by decide) (by decide) (by decide) (by decide) (by simp only [go_sem, seval, sR_len, sR_pure, inR_len, inR_pure, sC_eq, V.cl]) (by simp only [go_sem, seval, sR_len, sR_pure, inR_len, inR_pure, sC_eq, V.cl]) (by simp only [go_sem, seval, sR_len, sR_pure, inR_len, inR_pure, sC_eq, swL_get, sw, swM, rnB] <;> rfl) (by simp only [go_sem, seval, sR_len, sR_pure, inR_len, inR_pure, sC_eq, swL_get, sw, swM, rnB] <;> rfl) (by simp only [go_sem, seval, sR_len, sR_pure, inR_len, inR_pure, sC_eq, swL_get, sw, swM, rnB] <;> rfl)) ?_
              exact Can.weak (Weak.lit (by simp only [go_sem, seval, sR_len, sR_pure, inR_len, inR_pure, sC_eq, subM, leV, inns, innr, V.inn, us, true_or, or_true] <;> ((have hk : k < l.length := (by simpa using h18)); (have e := pruns_say hk hI.2.1 (by simpa using h23) (by simpa using h52) (by rw [hJ] at h47; simpa using h47) (by simp at h65; exact h65)); rw [e, wrap64 (by omega) (by omega)]; simp)) (by simp only [go_sem, seval, sR_len, sR_pure, inR_len, inR_pure, sC_eq, subM, leV, inns, innr, V.inn, us, true_or, or_true]) (by simp only [go_sem, seval, sR_len, sR_pure, inR_len, inR_pure, sC_eq, subM, leV, inns, innr, V.inn, us, true_or, or_true] <;> ((have hk : k < l.length := (by simpa using h18)); (have e := pruns_say hk hI.2.1 (by simpa using h23) (by simpa using h52) (by rw [hJ] at h47; simpa using h47) (by simp at h65; exact h65)); rw [e]; simp [inR_snoc1, hJ])))
            · refine AWp.skip ?_
              refine AWp.rgn [] (by simp only [go_sem, seval, sR_len, sR_pure, inR_len, inR_pure, sC_eq]; rfl) ?_ ?_
              · (first | trivial | (simp; done))
              refine Exists.intro (k + 1) ⟨?_, ?_, ?_⟩
              · have hk : k < l.length := (by simpa using h18); have e := pruns_mute hk hI.2.1 (by simpa using h23) (by simpa using h52) (by rw [hJ] at h47; simpa using h47) (by simp at h65; exact h65.1) (by simp at h65; exact h65.2); exact ⟨by omega, by rw [e]; exact hI.2.1, hI.2.2⟩
              · simp at h18; omega
              exact Can.weak (Weak.lit (by simp only [go_sem, seval, sR_len, sR_pure, inR_len, inR_pure, sC_eq, subM, leV, inns, innr, V.inn, us, true_or, or_true] <;> ((have hk : k < l.length := (by simpa using h18)); (have e := pruns_mute hk hI.2.1 (by simpa using h23) (by simpa using h52) (by rw [hJ] at h47; simpa using h47) (by simp at h65; exact h65.1) (by simp at h65; exact h65.2)); rw [e, wrap64 (by omega) (by omega)]; simp)) (by simp only [go_sem, seval, sR_len, sR_pure, inR_len, inR_pure, sC_eq, subM, leV, inns, innr, V.inn, us, true_or, or_true]) (by simp only [go_sem, seval, sR_len, sR_pure, inR_len, inR_pure, sC_eq, subM, leV, inns, innr, V.inn, us, true_or, or_true] <;> ((have hk : k < l.length := (by simpa using h18)); (have e := pruns_mute hk hI.2.1 (by simpa using h23) (by simpa using h52) (by rw [hJ] at h47; simpa using h47) (by simp at h65; exact h65.1) (by simp at h65; exact h65.2)); rw [e]; simp)))
    · refine AWp.exit ?_
      refine AWp.seq ?_
      refine AWp.rgn [callN [22] [] (ClipInt_a (runs ((l.map ofS).take k)).said (runs ((l.map ofS).take k)).said.length rfl (by have := (pruns_lt hI.1 (pok_open hI.2.2).2.1).2.2; omega))] (by simp only [go_sem, seval, sR_len, sR_pure, inR_len, inR_pure, sC_eq]; rfl) ?_ ?_
      · (first | trivial | (simp; done))
      refine AWp.ret (And.intro (.inr rfl) ?_)
      exact Out.mem' (by simp only [Tryz.results33]; rfl) (by simp only [resCs, resC, go_sem, seval, sR_len, sR_pure, inR_len, inR_pure, sC_eq]) (by simp only [resV, rns, rn, go_sem, seval, sR_len, sR_pure, inR_len, inR_pure, sC_eq] <;> (rw [prun_end hI.2.2 (by simpa using h18) hI.2.1]; try simp)) (by simp) rfl (by decide) (by simp only [go_sem, seval, sR_len, sR_pure, inR_len, inR_pure, sC_eq]) (by simp only [clrs, go_sem, seval, sR_len, sR_pure, inR_len, inR_pure, sC_eq]) (by simp only [memEq, go_sem, seval, sR_len, sR_pure, inR_len, inR_pure, sC_eq] <;> (rw [prun_end hI.2.2 (by simpa using h18) hI.2.1]; (try simp [rnr_pure, inR_pure])))
theorem iProgRun_a (l : List Sl) (hs : allS l = true) (hl : l.length < 4611686018427387904) : ACall En 33 [.sl false (sR l)] [] [.sl false (inR (prun l).1), .b (prun l).2] [] :=
  ACall.frz1 (iProgRunO_a l hs hl) (by simp [frzs, frz, inR_len, List.take_of_length_le])
end
end Go.Proofs.YteihfmnmpdbkiaaGreatDoor
