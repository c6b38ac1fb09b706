/- The law FnBare: what it answers. Conditions: none. -/
import Derived.Test.YteihfmnmpdbkiaaGreatDoorZF11
import Derived.Test.YteihfmnmpdbkiaaGreatDoorK2
import Derived.Test.YteihfmnmpdbkiaaGreatDoorKl
set_option linter.unusedVariables false
set_option linter.unusedSimpArgs false
namespace Go.Proofs.YteihfmnmpdbkiaaGreatDoor
set_option maxRecDepth 100000
set_option maxHeartbeats 8000000

theorem bofOk_ok {s : Sl} (h : sok s = true) : bofOk s = bof s := by unfold bofOk; rw [if_pos h]
theorem btxt_ok {b : Bl} (h : bok b = true) : btxt b = btext b := by unfold btxt; rw [if_pos h]; rfl
theorem lines_le {l : List Sl} (h : pok l = true) : (lnText ((l.map bof).map btext)).length ≤ 2000 := by rw [← emText_lines h]; exact emText_len l
theorem lawBare_a (b : Str) : ACall En 9 [.sl false (byR b)] [] [.b true] [] := by
  have DA := DrawProgRun_a b
  obtain ⟨la, sa⟩ := d6_p (b.take 2000) (p := 0) (by decide) (by decide)
  generalize (d6 (b.take 2000) 0).1 = l at *
  have hB : pok l = true → ball (lnText ((l.map bof).map btext)) = prun l := fun h => by rw [← emText_lines h]; exact ball_emText h
  have hS : ∀ k, k < l.length → sms' (l.getD k S0) = true := fun k hk => allS_at sa hk
  have hO : ∀ k, pok l = true → k < l.length → bofOk (l.getD k S0) = bof (l.getD k S0) ∧ bok (bof (l.getD k S0)) = true ∧ smb (bof (l.getD k S0)) = true ∧ btxt (bof (l.getD k S0)) = btext (bof (l.getD k S0)) := fun k h hk => by
    have h1 := (pok_open h).2.2 k hk
    exact ⟨bofOk_ok h1, bok_bof h1, smb_bof (hS k hk), btxt_ok (bok_bof h1)⟩
  have hA : allB (l.map bof) = true := by
    refine List.all_eq_true.2 fun x hx => ?_
    obtain ⟨s, hs, rfl⟩ := List.mem_map.1 hx
    exact smb_bof (List.all_eq_true.1 sa s hs)
  have hR : pok l = true → brun (l.map bof) = prun l := fun h => brun_bof h
  refine acall_of_body (fn := Tryz.f9) [] Tryz.func9 rfl rfl (by simp) fun C => ?_
  rw [entry_eq]
  simp only [Tryz.ntmps9, List.length_cons, List.length_nil, Nat.reduceAdd, Nat.reduceSub, List.replicate_succ, List.replicate_zero, List.cons_append, List.nil_append, numL]
  refine AWp.seq ?_
  refine AWp.rgn [] (by simp only [go_sem, seval, inR_len, inR_pure, sR_len, sR_pure, sC_eq, bC_eq, bLR_pure, strR_pure]; rfl) ?_ ?_
  · (first | trivial | (simp; done) | (simp at h118; simp; omega) | (simp only [decide_eq_true_eq] at h62; have hk : k < l.length := (by omega); have h2 := hI.2; first | exact ⟨hk, h2⟩ | exact ⟨⟨by omega, by omega⟩, hk, h2⟩ | (refine ⟨⟨hk, h2⟩, ?_⟩; simp; omega) | omega | (simp [bLR_len]; omega)))
  refine AWp.seq ?_
  refine AWp.seq ?_
  refine AWp.rgn [] (by simp only [go_sem, seval, inR_len, inR_pure, sR_len, sR_pure, sC_eq, bC_eq, bLR_pure, strR_pure]; rfl) ?_ ?_
  · (first | trivial | (simp; done) | (simp at h118; simp; omega) | (simp only [decide_eq_true_eq] at h62; have hk : k < l.length := (by omega); have h2 := hI.2; first | exact ⟨hk, h2⟩ | exact ⟨⟨by omega, by omega⟩, hk, h2⟩ | (refine ⟨⟨hk, h2⟩, ?_⟩; simp; omega) | omega | (simp [bLR_len]; omega)))
  refine AWp.condB (by simp only [go_sem, seval, inR_len, inR_pure, sR_len, sR_pure, sC_eq, bC_eq, bLR_pure, strR_pure]; rfl) (by simp only [go_sem, seval, inR_len, inR_pure, sR_len, sR_pure, sC_eq, bC_eq, bLR_pure, strR_pure]) (fun h19 => ?_) (fun h19 => ?_)
  · refine AWp.seq ?_
    refine AWp.rgn [] (by simp only [go_sem, seval, inR_len, inR_pure, sR_len, sR_pure, sC_eq, bC_eq, bLR_pure, strR_pure]; rfl) ?_ ?_
    · (first | trivial | (simp; done) | (simp at h118; simp; omega) | (simp only [decide_eq_true_eq] at h62; have hk : k < l.length := (by omega); have h2 := hI.2; first | exact ⟨hk, h2⟩ | exact ⟨⟨by omega, by omega⟩, hk, h2⟩ | (refine ⟨⟨hk, h2⟩, ?_⟩; simp; omega) | omega | (simp [bLR_len]; omega)))
    refine AWp.ret (And.intro (.inr rfl) ?_)
    exact Out.plain (by simp only [Tryz.results9]; rfl) (by simp only [resCs, resC, go_sem, seval, inR_len, inR_pure, sR_len, sR_pure, sC_eq, bC_eq, bLR_pure, strR_pure] <;> (split <;> rfl)) (by simp only [resV, go_sem, seval, inR_len, inR_pure, sR_len, sR_pure, sC_eq, bC_eq, bLR_pure, strR_pure] <;> (simp)) (by simp only [go_sem, seval, inR_len, inR_pure, sR_len, sR_pure, sC_eq, bC_eq, bLR_pure, strR_pure])
  · refine AWp.skip ?_
    refine AWp.seq ?_
    refine AWp.rgn [call0 DA] (by simp only [go_sem, seval, inR_len, inR_pure, sR_len, sR_pure, sC_eq, bC_eq, bLR_pure, strR_pure]; rfl) ?_ ?_
    · (first | trivial | (simp; done) | (simp at h118; simp; omega) | (simp only [decide_eq_true_eq] at h62; have hk : k < l.length := (by omega); have h2 := hI.2; first | exact ⟨hk, h2⟩ | exact ⟨⟨by omega, by omega⟩, hk, h2⟩ | (refine ⟨⟨hk, h2⟩, ?_⟩; simp; omega) | omega | (simp [bLR_len]; omega)))
    refine AWp.seq ?_
    refine AWp.rgn [call0 (iProgRun_a l sa (by omega))] (by simp only [go_sem, seval, inR_len, inR_pure, sR_len, sR_pure, sC_eq, bC_eq, bLR_pure, strR_pure]; rfl) ?_ ?_
    · (first | trivial | (simp; done) | (simp at h118; simp; omega) | (simp only [decide_eq_true_eq] at h62; have hk : k < l.length := (by omega); have h2 := hI.2; first | exact ⟨hk, h2⟩ | exact ⟨⟨by omega, by omega⟩, hk, h2⟩ | (refine ⟨⟨hk, h2⟩, ?_⟩; simp; omega) | omega | (simp [bLR_len]; omega)))
    refine AWp.seq ?_
    refine AWp.rgn [call0 (sProgRun_a l sa (by omega))] (by simp only [go_sem, seval, inR_len, inR_pure, sR_len, sR_pure, sC_eq, bC_eq, bLR_pure, strR_pure]; rfl) ?_ ?_
    · (first | trivial | (simp; done) | (simp at h118; simp; omega) | (simp only [decide_eq_true_eq] at h62; have hk : k < l.length := (by omega); have h2 := hI.2; first | exact ⟨hk, h2⟩ | exact ⟨⟨by omega, by omega⟩, hk, h2⟩ | (refine ⟨⟨hk, h2⟩, ?_⟩; simp; omega) | omega | (simp [bLR_len]; omega)))
    refine AWp.seq ?_
    refine AWp.seq ?_
    refine AWp.rgn [call0 (sProgOk_a l sa (by omega))] (by simp only [go_sem, seval, inR_len, inR_pure, sR_len, sR_pure, sC_eq, bC_eq, bLR_pure, strR_pure]; rfl) ?_ ?_
    · (first | trivial | (simp; done) | (simp at h118; simp; omega) | (simp only [decide_eq_true_eq] at h62; have hk : k < l.length := (by omega); have h2 := hI.2; first | exact ⟨hk, h2⟩ | exact ⟨⟨by omega, by omega⟩, hk, h2⟩ | (refine ⟨⟨hk, h2⟩, ?_⟩; simp; omega) | omega | (simp [bLR_len]; omega)))
    refine AWp.condB (by simp only [go_sem, seval, inR_len, inR_pure, sR_len, sR_pure, sC_eq, bC_eq, bLR_pure, strR_pure]; rfl) (by simp only [go_sem, seval, inR_len, inR_pure, sR_len, sR_pure, sC_eq, bC_eq, bLR_pure, strR_pure]) (fun h46 => ?_) (fun h46 => ?_)
    · refine AWp.seq ?_
      refine AWp.rgn [] (by simp only [go_sem, seval, inR_len, inR_pure, sR_len, sR_pure, sC_eq, bC_eq, bLR_pure, strR_pure]; rfl) ?_ ?_
      · (first | trivial | (simp; done) | (simp at h118; simp; omega) | (simp only [decide_eq_true_eq] at h62; have hk : k < l.length := (by omega); have h2 := hI.2; first | exact ⟨hk, h2⟩ | exact ⟨⟨by omega, by omega⟩, hk, h2⟩ | (refine ⟨⟨hk, h2⟩, ?_⟩; simp; omega) | omega | (simp [bLR_len]; omega)))
      refine AWp.ret (And.intro (.inr rfl) ?_)
      exact Out.plain (by simp only [Tryz.results9]; rfl) (by simp only [resCs, resC, go_sem, seval, inR_len, inR_pure, sR_len, sR_pure, sC_eq, bC_eq, bLR_pure, strR_pure] <;> (split <;> rfl)) (by simp only [resV, go_sem, seval, inR_len, inR_pure, sR_len, sR_pure, sC_eq, bC_eq, bLR_pure, strR_pure] <;> (simp)) (by simp only [go_sem, seval, inR_len, inR_pure, sR_len, sR_pure, sC_eq, bC_eq, bLR_pure, strR_pure])
    · refine AWp.skip ?_
      refine AWp.seq ?_
      refine AWp.rgn [] (by simp only [go_sem, seval, inR_len, inR_pure, sR_len, sR_pure, sC_eq, bC_eq, bLR_pure, strR_pure]; rfl) ?_ ?_
      · (first | trivial | (simp; done) | (simp at h118; simp; omega) | (simp only [decide_eq_true_eq] at h62; have hk : k < l.length := (by omega); have h2 := hI.2; first | exact ⟨hk, h2⟩ | exact ⟨⟨by omega, by omega⟩, hk, h2⟩ | (refine ⟨⟨hk, h2⟩, ?_⟩; simp; omega) | omega | (simp [bLR_len]; omega)))
      refine AWp.seq ?_
      refine AWp.rgn [] (by simp only [go_sem, seval, inR_len, inR_pure, sR_len, sR_pure, sC_eq, bC_eq, bLR_pure, strR_pure]; rfl) ?_ ?_
      · (first | trivial | (simp; done) | (simp at h118; simp; omega) | (simp only [decide_eq_true_eq] at h62; have hk : k < l.length := (by omega); have h2 := hI.2; first | exact ⟨hk, h2⟩ | exact ⟨⟨by omega, by omega⟩, hk, h2⟩ | (refine ⟨⟨hk, h2⟩, ?_⟩; simp; omega) | omega | (simp [bLR_len]; omega)))
      refine AWp.seqJ (fun u : Unit => ⟨[.no, .no, .no, .no, .sl false (inR (prun l).1), .b (prun l).2, .sl false (inR (prun l).1), .no, .sl false (strR ((l.map bof).map btext)), .sl false (bLR (l.map bof)), .no, .no, .no, .no, .no, .no, .no, .no, .no, .no, .no, .no, .no, .no, .no, .no, .no, .no, .no, .no, .no, .no, .no, .no, .no, .no, .no, .no, .no, .no, .no, .no, .no, .no, .no, .no, .no, .no, .no, .no, .no, .no, .no, .no, .no, .no, .no, .no, .no, .no, .no, .no, .no, .no, .no, .no, .no, .no, .no, .no, .no, .no, .no, .no, .no, .no, .no, .no, .no, .no, .no, .no, .no, .no, .no, .no, .no, .no, .no, .no, .no, .no, .no, .no, .no, .no, .no, .no, .no, .no, .no, .no, .no, .no, .no, .no, .no, .no, .no, .no, .no, .no, .no, .no, .no, .no, .no, .no, .no, .no, .no, .no, .no, .no, .no, .no, .no, .no, .no, .no, .no, .no, .no, .no, .no, .no, .no, .no, .no, .no, .no, .no, .no, .no, .no, .no, .no, .no, .no, .no, .no, .no], memOf [], us []⟩) (fun u : Unit => pok l = true) ?_ (fun u hJ => ?_)
      · refine AWp.seq ?_
        refine AWp.rgn [] (by simp only [go_sem, seval, inR_len, inR_pure, sR_len, sR_pure, sC_eq, bC_eq, bLR_pure, strR_pure]; rfl) ?_ ?_
        · (first | trivial | (simp; done) | (simp at h118; simp; omega) | (simp only [decide_eq_true_eq] at h62; have hk : k < l.length := (by omega); have h2 := hI.2; first | exact ⟨hk, h2⟩ | exact ⟨⟨by omega, by omega⟩, hk, h2⟩ | (refine ⟨⟨hk, h2⟩, ?_⟩; simp; omega) | omega | (simp [bLR_len]; omega)))
        refine AWp.block ?_
        refine AWp.loopK (fun k : Nat => ⟨[.no, .no, .no, .sl false (sR l), .sl false (inR (prun l).1), .b (prun l).2, .sl false (inR (prun l).1), .no, .ow 60 1 0 k, .ow 61 10 0 k, .i .i64 k, .no, .no, .no, .no, .no, .no, .no, .no, .no, .no, .no, .no, .no, .no, .no, .no, .no, .no, .no, .no, .no, .no, .no, .no, .no, .no, .no, .no, .no, .no, .no, .no, .no, .no, .no, .no, .no, .no, .no, .no, .no, .no, .no, .no, .no, .no, .no, .no, .no, .no, .no, .no, .no, .no, .no, .no, .no, .no, .no, .no, .no, .no, .no, .no, .no, .no, .no, .no, .no, .no, .no, .no, .no, .no, .no, .no, .no, .no, .no, .no, .no, .no, .no, .no, .no, .no, .no, .no, .no, .no, .no, .no, .no, .no, .no, .no, .no, .no, .no, .no, .no, .no, .no, .no, .no, .no, .no, .no, .no, .no, .no, .no, .no, .no, .no, .no, .no, .no, .no, .no, .no, .no, .no, .no, .no, .no, .no, .no, .no, .no, .no, .no, .no, .no, .no, .no, .no, .no, .no, .no, .no], memOf [(60, ⟨9, 1, strR (((l.map bof).map btext).take k)⟩), (61, ⟨64, 10, bLR ((l.map bof).take k)⟩)], us [60, 61]⟩) (fun k : Nat => k ≤ l.length ∧ pok l = true) (fun k : Nat => l.length - k) (0) ?_ ?_ (fun k hI => ?_)
        · simp at h46; exact ⟨Nat.zero_le _, h46⟩
        · refine Can.trans (Can.ownSlot 8 60 9 1 (by simp only [go_sem, seval, inR_len, inR_pure, sR_len, sR_pure, sC_eq, bC_eq, bLR_pure, strR_pure] <;> rfl) (by simp only [go_sem, seval, inR_len, inR_pure, sR_len, sR_pure, sC_eq, bC_eq, bLR_pure, strR_pure]) (by simp only [go_sem, seval, inR_len, inR_pure, sR_len, sR_pure, sC_eq, bC_eq, bLR_pure, strR_pure] <;> rfl)) ?_
          refine Can.trans (Can.ownSlot 9 61 64 10 (by simp only [go_sem, seval, inR_len, inR_pure, sR_len, sR_pure, sC_eq, bC_eq, bLR_pure, strR_pure] <;> rfl) (by simp only [go_sem, seval, inR_len, inR_pure, sR_len, sR_pure, sC_eq, bC_eq, bLR_pure, strR_pure]) (by simp only [go_sem, seval, inR_len, inR_pure, sR_len, sR_pure, sC_eq, bC_eq, bLR_pure, strR_pure] <;> rfl)) ?_
          exact Can.weak (Weak.lit (by simp only [go_sem, seval, inR_len, inR_pure, sR_len, sR_pure, sC_eq, bC_eq, bLR_pure, strR_pure, subM, leV, inns, innr, V.inn, us, true_or, or_true] <;> ((try simp))) (by simp only [go_sem, seval, inR_len, inR_pure, sR_len, sR_pure, sC_eq, bC_eq, bLR_pure, strR_pure, subM, leV, inns, innr, V.inn, us, true_or, or_true]) (by simp only [go_sem, seval, inR_len, inR_pure, sR_len, sR_pure, sC_eq, bC_eq, bLR_pure, strR_pure, subM, leV, inns, innr, V.inn, us, true_or, or_true] <;> (simp [strR, bLR])))
        refine AWp.seq ?_
        refine AWp.seq ?_
        refine AWp.rgn [] (by simp only [go_sem, seval, inR_len, inR_pure, sR_len, sR_pure, sC_eq, bC_eq, bLR_pure, strR_pure]; rfl) ?_ ?_
        · (first | trivial | (simp; done) | (simp at h118; simp; omega) | (simp only [decide_eq_true_eq] at h62; have hk : k < l.length := (by omega); have h2 := hI.2; first | exact ⟨hk, h2⟩ | exact ⟨⟨by omega, by omega⟩, hk, h2⟩ | (refine ⟨⟨hk, h2⟩, ?_⟩; simp; omega) | omega | (simp [bLR_len]; omega)))
        refine AWp.condB (by simp only [go_sem, seval, inR_len, inR_pure, sR_len, sR_pure, sC_eq, bC_eq, bLR_pure, strR_pure]; rfl) (by simp only [go_sem, seval, inR_len, inR_pure, sR_len, sR_pure, sC_eq, bC_eq, bLR_pure, strR_pure]) (fun h62 => ?_) (fun h62 => ?_)
        · refine AWp.skip ?_
          refine AWp.seq ?_
          refine AWp.block ?_
          refine AWp.seq ?_
          refine AWp.rgn [callI (k < l.length ∧ pok l = true) (fun h => (hO k h.2 h.1).1 ▸ iBareOf_a (l.getD k S0) (hS k h.1))] (by simp only [go_sem, seval, inR_len, inR_pure, sR_len, sR_pure, sC_eq, bC_eq, bLR_pure, strR_pure, sR_get (show k < l.length by simpa using h62), sC_eq]; rfl) ?_ ?_
          · (first | trivial | (simp; done) | (simp at h118; simp; omega) | (simp only [decide_eq_true_eq] at h62; have hk : k < l.length := (by omega); have h2 := hI.2; first | exact ⟨hk, h2⟩ | exact ⟨⟨by omega, by omega⟩, hk, h2⟩ | (refine ⟨⟨hk, h2⟩, ?_⟩; simp; omega) | omega | (simp [bLR_len]; omega)))
          refine AWp.seq ?_
          refine AWp.seq ?_
          refine AWp.rgn [callI (k < l.length ∧ pok l = true) (fun h => iBareOk_a (bof (l.getD k S0)) (hO k h.2 h.1).2.2.1)] (by simp only [go_sem, seval, inR_len, inR_pure, sR_len, sR_pure, sC_eq, bC_eq, bLR_pure, strR_pure]; rfl) ?_ ?_
          · (first | trivial | (simp; done) | (simp at h118; simp; omega) | (simp only [decide_eq_true_eq] at h62; have hk : k < l.length := (by omega); have h2 := hI.2; first | exact ⟨hk, h2⟩ | exact ⟨⟨by omega, by omega⟩, hk, h2⟩ | (refine ⟨⟨hk, h2⟩, ?_⟩; simp; omega) | omega | (simp [bLR_len]; omega)))
          refine AWp.condB (by simp only [go_sem, seval, inR_len, inR_pure, sR_len, sR_pure, sC_eq, bC_eq, bLR_pure, strR_pure]; rfl) (by simp only [go_sem, seval, inR_len, inR_pure, sR_len, sR_pure, sC_eq, bC_eq, bLR_pure, strR_pure]) (fun h72 => ?_) (fun h72 => ?_)
          · have := (hO k hI.2 (by simpa using h62)).2.1; rw [this] at h72; cases h72
          · refine AWp.skip ?_
            refine AWp.seq ?_
            refine AWp.rgn [] (by simp only [go_sem, seval, inR_len, inR_pure, sR_len, sR_pure, sC_eq, bC_eq, bLR_pure, strR_pure]; rfl) ?_ ?_
            · (first | trivial | (simp; done) | (simp at h118; simp; omega) | (simp only [decide_eq_true_eq] at h62; have hk : k < l.length := (by omega); have h2 := hI.2; first | exact ⟨hk, h2⟩ | exact ⟨⟨by omega, by omega⟩, hk, h2⟩ | (refine ⟨⟨hk, h2⟩, ?_⟩; simp; omega) | omega | (simp [bLR_len]; omega)))
            refine AWp.rgn [callI (k < l.length ∧ pok l = true) (fun h => (hO k h.2 h.1).2.2.2 ▸ iBareText_a (bof (l.getD k S0)) (hO k h.2 h.1).2.2.1)] (by simp only [go_sem, seval, inR_len, inR_pure, sR_len, sR_pure, sC_eq, bC_eq, bLR_pure, strR_pure]; rfl) ?_ ?_
            · (first | trivial | (simp; done) | (simp at h118; simp; omega) | (simp only [decide_eq_true_eq] at h62; have hk : k < l.length := (by omega); have h2 := hI.2; first | exact ⟨hk, h2⟩ | exact ⟨⟨by omega, by omega⟩, hk, h2⟩ | (refine ⟨⟨hk, h2⟩, ?_⟩; simp; omega) | omega | (simp [bLR_len]; omega)))
            refine AWp.rgn [] (by simp only [go_sem, seval, inR_len, inR_pure, sR_len, sR_pure, sC_eq, bC_eq, bLR_pure, strR_pure]; rfl) ?_ ?_
            · (first | trivial | (simp; done) | (simp at h118; simp; omega) | (simp only [decide_eq_true_eq] at h62; have hk : k < l.length := (by omega); have h2 := hI.2; first | exact ⟨hk, h2⟩ | exact ⟨⟨by omega, by omega⟩, hk, h2⟩ | (refine ⟨⟨hk, h2⟩, ?_⟩; simp; omega) | omega | (simp [bLR_len]; omega)))
            refine Exists.intro (k + 1) ⟨?_, ?_, ?_⟩
            · simp at h62; exact ⟨by omega, hI.2⟩
            · simp at h62; omega
            refine Can.trans (Can.swap 91 60 (by decide) (by decide) (by decide) (by decide) (by simp only [go_sem, seval, inR_len, inR_pure, sR_len, sR_pure, sC_eq, bC_eq, bLR_pure, strR_pure, V.cl]) (by simp only [go_sem, seval, inR_len, inR_pure, sR_len, sR_pure, sC_eq, bC_eq, bLR_pure, strR_pure, V.cl]) (by simp only [go_sem, seval, inR_len, inR_pure, sR_len, sR_pure, sC_eq, bC_eq, bLR_pure, strR_pure, swL_get, sw, swM, rnB] <;> rfl) (by simp only [go_sem, seval, inR_len, inR_pure, sR_len, sR_pure, sC_eq, bC_eq, bLR_pure, strR_pure, swL_get, sw, swM, rnB] <;> rfl) (by simp only [go_sem, seval, inR_len, inR_pure, sR_len, sR_pure, sC_eq, bC_eq, bLR_pure, strR_pure, swL_get, sw, swM, rnB] <;> rfl)) ?_
            refine Can.trans (Can.swap 86 61 (by decide) (by decide) (by decide) (by decide) (by simp only [go_sem, seval, inR_len, inR_pure, sR_len, sR_pure, sC_eq, bC_eq, bLR_pure, strR_pure, V.cl]) (by simp only [go_sem, seval, inR_len, inR_pure, sR_len, sR_pure, sC_eq, bC_eq, bLR_pure, strR_pure, V.cl]) (by simp only [go_sem, seval, inR_len, inR_pure, sR_len, sR_pure, sC_eq, bC_eq, bLR_pure, strR_pure, swL_get, sw, swM, rnB] <;> rfl) (by simp only [go_sem, seval, inR_len, inR_pure, sR_len, sR_pure, sC_eq, bC_eq, bLR_pure, strR_pure, swL_get, sw, swM, rnB] <;> rfl) (by simp only [go_sem, seval, inR_len, inR_pure, sR_len, sR_pure, sC_eq, bC_eq, bLR_pure, strR_pure, swL_get, sw, swM, rnB] <;> rfl)) ?_
            exact Can.weak (Weak.lit (by simp only [go_sem, seval, inR_len, inR_pure, sR_len, sR_pure, sC_eq, bC_eq, bLR_pure, strR_pure, subM, leV, inns, innr, V.inn, us, true_or, or_true] <;> (rw [wrap64 (by omega) (by omega)]; simp)) (by simp only [go_sem, seval, inR_len, inR_pure, sR_len, sR_pure, sC_eq, bC_eq, bLR_pure, strR_pure, subM, leV, inns, innr, V.inn, us, true_or, or_true]) (by simp only [go_sem, seval, inR_len, inR_pure, sR_len, sR_pure, sC_eq, bC_eq, bLR_pure, strR_pure, subM, leV, inns, innr, V.inn, us, true_or, or_true] <;> ((have hk : k < l.length := (by simpa using h62)); rw [strR_snoc (show k < ((l.map bof).map btext).length by simpa using hk), bLR_take (show k < (l.map bof).length by simpa using hk)]; simp [List.getD_eq_getElem?_getD, List.getElem?_eq_getElem hk, bC_eq])))
        · refine AWp.exit ?_
          refine Exists.intro (()) ⟨?_, ?_⟩
          · exact hI.2
          refine Can.trans (Can.frz 60 (by simp only [go_sem, seval, inR_len, inR_pure, sR_len, sR_pure, sC_eq, bC_eq, bLR_pure, strR_pure] <;> rfl) (by simp only [go_sem, seval, inR_len, inR_pure, sR_len, sR_pure, sC_eq, bC_eq, bLR_pure, strR_pure]) (by simp only [go_sem, seval, inR_len, inR_pure, sR_len, sR_pure, sC_eq, bC_eq, bLR_pure, strR_pure] <;> rfl) (by simp only [go_sem, seval, inR_len, inR_pure, sR_len, sR_pure, sC_eq, bC_eq, bLR_pure, strR_pure] <;> rfl)) ?_
          refine Can.trans (Can.frz 61 (by simp only [go_sem, seval, inR_len, inR_pure, sR_len, sR_pure, sC_eq, bC_eq, bLR_pure, strR_pure] <;> rfl) (by simp only [go_sem, seval, inR_len, inR_pure, sR_len, sR_pure, sC_eq, bC_eq, bLR_pure, strR_pure]) (by simp only [go_sem, seval, inR_len, inR_pure, sR_len, sR_pure, sC_eq, bC_eq, bLR_pure, strR_pure] <;> rfl) (by simp only [go_sem, seval, inR_len, inR_pure, sR_len, sR_pure, sC_eq, bC_eq, bLR_pure, strR_pure] <;> rfl)) ?_
          exact Can.weak (Weak.lit (by simp only [go_sem, seval, inR_len, inR_pure, sR_len, sR_pure, sC_eq, bC_eq, bLR_pure, strR_pure, subM, leV, inns, innr, V.inn, us, true_or, or_true] <;> (simp at h62; (obtain rfl : k = l.length := (by omega)); simp [List.take_of_length_le, strR_len, bLR_len, leV, ler_refl, frz, frzr_pure _ (strR_pure _)])) (by simp only [go_sem, seval, inR_len, inR_pure, sR_len, sR_pure, sC_eq, bC_eq, bLR_pure, strR_pure, subM, leV, inns, innr, V.inn, us, true_or, or_true]) (by simp only [go_sem, seval, inR_len, inR_pure, sR_len, sR_pure, sC_eq, bC_eq, bLR_pure, strR_pure, subM, leV, inns, innr, V.inn, us, true_or, or_true]))
      refine AWp.seq ?_
      refine AWp.rgn [callI (pok l = true) (fun h => hR h ▸ iBareRun_a (l.map bof) hA (by simp; omega))] (by simp only [go_sem, seval, inR_len, inR_pure, sR_len, sR_pure, sC_eq, bC_eq, bLR_pure, strR_pure]; rfl) ?_ ?_
      · (first | trivial | (simp; done) | (simp at h118; simp; omega) | (simp only [decide_eq_true_eq] at h62; have hk : k < l.length := (by omega); have h2 := hI.2; first | exact ⟨hk, h2⟩ | exact ⟨⟨by omega, by omega⟩, hk, h2⟩ | (refine ⟨⟨hk, h2⟩, ?_⟩; simp; omega) | omega | (simp [bLR_len]; omega)))
      refine AWp.seq ?_
      refine AWp.rgn [callBI (pok l = true) (fun h => iTextJoin_a ((l.map bof).map btext) (by have := lines_le h; omega) (by simp; omega)), callI (pok l = true) (fun h => hB h ▸ iBareAll_a (lnText ((l.map bof).map btext)) (by have := lines_le h; omega))] (by simp only [go_sem, seval, inR_len, inR_pure, sR_len, sR_pure, sC_eq, bC_eq, bLR_pure, strR_pure]; rfl) ?_ ?_
      · (first | trivial | (simp; done) | (simp at h118; simp; omega) | (simp only [decide_eq_true_eq] at h62; have hk : k < l.length := (by omega); have h2 := hI.2; first | exact ⟨hk, h2⟩ | exact ⟨⟨by omega, by omega⟩, hk, h2⟩ | (refine ⟨⟨hk, h2⟩, ?_⟩; simp; omega) | omega | (simp [bLR_len]; omega)))
      refine AWp.seq ?_
      refine AWp.seq ?_
      refine AWp.rgn [] (by simp only [go_sem, seval, inR_len, inR_pure, sR_len, sR_pure, sC_eq, bC_eq, bLR_pure, strR_pure]; rfl) ?_ ?_
      · (first | trivial | (simp; done) | (simp at h118; simp; omega) | (simp only [decide_eq_true_eq] at h62; have hk : k < l.length := (by omega); have h2 := hI.2; first | exact ⟨hk, h2⟩ | exact ⟨⟨by omega, by omega⟩, hk, h2⟩ | (refine ⟨⟨hk, h2⟩, ?_⟩; simp; omega) | omega | (simp [bLR_len]; omega)))
      refine AWp.condB (by simp only [go_sem, seval, inR_len, inR_pure, sR_len, sR_pure, sC_eq, bC_eq, bLR_pure, strR_pure]; rfl) (by simp only [go_sem, seval, inR_len, inR_pure, sR_len, sR_pure, sC_eq, bC_eq, bLR_pure, strR_pure]) (fun h114 => ?_) (fun h114 => ?_)
      · simp at h114
      · refine AWp.skip ?_
        refine AWp.seq ?_
        refine AWp.seq ?_
        refine AWp.rgn [] (by simp only [go_sem, seval, inR_len, inR_pure, sR_len, sR_pure, sC_eq, bC_eq, bLR_pure, strR_pure]; rfl) ?_ ?_
        · (first | trivial | (simp; done) | (simp at h118; simp; omega) | (simp only [decide_eq_true_eq] at h62; have hk : k < l.length := (by omega); have h2 := hI.2; first | exact ⟨hk, h2⟩ | exact ⟨⟨by omega, by omega⟩, hk, h2⟩ | (refine ⟨⟨hk, h2⟩, ?_⟩; simp; omega) | omega | (simp [bLR_len]; omega)))
        refine AWp.block ?_
        refine AWp.loopK (fun j : Nat => ⟨[.no, .no, .no, .no, .sl false (inR (prun l).1), .no, .sl false (inR (prun l).1), .no, .no, .no, .no, .no, .sl false (inR (prun l).1), .no, .sl false (inR (prun l).1), .no, .i .i64 j, .no, .no, .no, .no, .no, .no, .no, .no, .no, .no, .no, .no, .no, .no, .no, .no, .no, .no, .no, .no, .no, .no, .no, .no, .no, .no, .no, .no, .no, .no, .no, .no, .no, .no, .no, .no, .no, .no, .no, .no, .no, .no, .no, .no, .no, .no, .no, .no, .no, .no, .no, .no, .no, .no, .no, .no, .no, .no, .no, .no, .no, .no, .no, .no, .no, .no, .no, .no, .no, .no, .no, .no, .no, .no, .no, .no, .no, .no, .no, .no, .no, .no, .no, .no, .no, .no, .no, .no, .no, .no, .no, .no, .no, .no, .no, .no, .no, .no, .no, .no, .no, .no, .no, .no, .no, .no, .no, .no, .no, .no, .no, .no, .no, .no, .no, .no, .no, .no, .no, .no, .no, .no, .no, .no, .no, .no, .no, .no, .no, .no, .no, .no, .no, .no, .no], memOf [], us []⟩) (fun j : Nat => j ≤ (prun l).1.length) (fun j : Nat => (prun l).1.length - j) (0) ?_ ?_ (fun j hI => ?_)
        · simp
        · exact Can.weak (Weak.lit (by simp only [go_sem, seval, inR_len, inR_pure, sR_len, sR_pure, sC_eq, bC_eq, bLR_pure, strR_pure, subM, leV, inns, innr, V.inn, us, true_or, or_true] <;> ((try simp))) (by simp only [go_sem, seval, inR_len, inR_pure, sR_len, sR_pure, sC_eq, bC_eq, bLR_pure, strR_pure, subM, leV, inns, innr, V.inn, us, true_or, or_true]) (by simp only [go_sem, seval, inR_len, inR_pure, sR_len, sR_pure, sC_eq, bC_eq, bLR_pure, strR_pure, subM, leV, inns, innr, V.inn, us, true_or, or_true]))
        refine AWp.seq ?_
        refine AWp.seq ?_
        refine AWp.rgn [] (by simp only [go_sem, seval, inR_len, inR_pure, sR_len, sR_pure, sC_eq, bC_eq, bLR_pure, strR_pure]; rfl) ?_ ?_
        · (first | trivial | (simp; done) | (simp at h118; simp; omega) | (simp only [decide_eq_true_eq] at h62; have hk : k < l.length := (by omega); have h2 := hI.2; first | exact ⟨hk, h2⟩ | exact ⟨⟨by omega, by omega⟩, hk, h2⟩ | (refine ⟨⟨hk, h2⟩, ?_⟩; simp; omega) | omega | (simp [bLR_len]; omega)))
        refine AWp.condB (by simp only [go_sem, seval, inR_len, inR_pure, sR_len, sR_pure, sC_eq, bC_eq, bLR_pure, strR_pure]; rfl) (by simp only [go_sem, seval, inR_len, inR_pure, sR_len, sR_pure, sC_eq, bC_eq, bLR_pure, strR_pure]) (fun h118 => ?_) (fun h118 => ?_)
        · refine AWp.skip ?_
          refine AWp.seq ?_
          refine AWp.block ?_
          refine AWp.seq ?_
          refine AWp.rgnD [] enM (by simp only [go_sem, seval, inR_len, inR_pure, sR_len, sR_pure, sC_eq, bC_eq, bLR_pure, strR_pure, inR_get (show j < (prun l).1.length by simpa using h118)]; rfl) (by rfl) ?_ ?_
          · (first | trivial | (simp; done) | (simp at h118; simp; omega) | (simp only [decide_eq_true_eq] at h62; have hk : k < l.length := (by omega); have h2 := hI.2; first | exact ⟨hk, h2⟩ | exact ⟨⟨by omega, by omega⟩, hk, h2⟩ | (refine ⟨⟨hk, h2⟩, ?_⟩; simp; omega) | omega | (simp [bLR_len]; omega)))
          refine AWp.condB (by simp only [go_sem, seval, inR_len, inR_pure, sR_len, sR_pure, sC_eq, bC_eq, bLR_pure, strR_pure]; rfl) (by simp only [go_sem, seval, inR_len, inR_pure, sR_len, sR_pure, sC_eq, bC_eq, bLR_pure, strR_pure]) (fun h151 => ?_) (fun h151 => ?_)
          · simp at h151
          · refine AWp.skip ?_
            refine AWp.rgn [] (by simp only [go_sem, seval, inR_len, inR_pure, sR_len, sR_pure, sC_eq, bC_eq, bLR_pure, strR_pure]; rfl) ?_ ?_
            · (first | trivial | (simp; done) | (simp at h118; simp; omega) | (simp only [decide_eq_true_eq] at h62; have hk : k < l.length := (by omega); have h2 := hI.2; first | exact ⟨hk, h2⟩ | exact ⟨⟨by omega, by omega⟩, hk, h2⟩ | (refine ⟨⟨hk, h2⟩, ?_⟩; simp; omega) | omega | (simp [bLR_len]; omega)))
            refine Exists.intro (j + 1) ⟨?_, ?_, ?_⟩
            · simp at h118; omega
            · simp at h118; omega
            exact Can.weak (Weak.lit (by simp only [go_sem, seval, inR_len, inR_pure, sR_len, sR_pure, sC_eq, bC_eq, bLR_pure, strR_pure, subM, leV, inns, innr, V.inn, us, true_or, or_true] <;> (rw [wrap64 (by have := prun_len l; omega) (by have := prun_len l; omega)]; simp)) (by simp only [go_sem, seval, inR_len, inR_pure, sR_len, sR_pure, sC_eq, bC_eq, bLR_pure, strR_pure, subM, leV, inns, innr, V.inn, us, true_or, or_true]) (by simp only [go_sem, seval, inR_len, inR_pure, sR_len, sR_pure, sC_eq, bC_eq, bLR_pure, strR_pure, subM, leV, inns, innr, V.inn, us, true_or, or_true]))
        · refine AWp.exit ?_
          refine AWp.seq ?_
          refine AWp.rgn [] (by simp only [go_sem, seval, inR_len, inR_pure, sR_len, sR_pure, sC_eq, bC_eq, bLR_pure, strR_pure]; rfl) ?_ ?_
          · (first | trivial | (simp; done) | (simp at h118; simp; omega) | (simp only [decide_eq_true_eq] at h62; have hk : k < l.length := (by omega); have h2 := hI.2; first | exact ⟨hk, h2⟩ | exact ⟨⟨by omega, by omega⟩, hk, h2⟩ | (refine ⟨⟨hk, h2⟩, ?_⟩; simp; omega) | omega | (simp [bLR_len]; omega)))
          refine AWp.ret (And.intro (.inr rfl) ?_)
          exact Out.plain (by simp only [Tryz.results9]; rfl) (by simp only [resCs, resC, go_sem, seval, inR_len, inR_pure, sR_len, sR_pure, sC_eq, bC_eq, bLR_pure, strR_pure] <;> (split <;> rfl)) (by simp only [resV, go_sem, seval, inR_len, inR_pure, sR_len, sR_pure, sC_eq, bC_eq, bLR_pure, strR_pure] <;> (simp)) (by simp only [go_sem, seval, inR_len, inR_pure, sR_len, sR_pure, sC_eq, bC_eq, bLR_pure, strR_pure])
end Go.Proofs.YteihfmnmpdbkiaaGreatDoor
