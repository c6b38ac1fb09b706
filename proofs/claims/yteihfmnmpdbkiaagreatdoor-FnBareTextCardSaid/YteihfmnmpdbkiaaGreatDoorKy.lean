/- Parts of the proof, one after another: What programs say, as they are and turned into lines without types; what texts say, plainly. | What a text says: the program's BareAll. | What programs say: the program's ProgRun. Conditions: none. -/
import Derived.Test.YteihfmnmpdbkiaaGreatDoorKw
import Derived.Test.YteihfmnmpdbkiaaGreatDoorKr
import Derived.Test.YteihfmnmpdbkiaaGreatDoorKu
import Derived.Test.YteihfmnmpdbkiaaGreatDoorKq
set_option linter.unusedVariables false
set_option linter.unusedSimpArgs false
namespace Go.Proofs.YteihfmnmpdbkiaaGreatDoor
section
def ball (s : Str) : List Int × Bool := if (tLines s).all (fun w => (bareR w).isSome) then brun ((tLines s).map fun w => (bareR w).getD B0) else ([], false)
end

section
set_option maxRecDepth 100000
set_option maxHeartbeats 4000000

def rdl (ls : List Str) : List Bl := ls.map fun w => (bareR w).getD B0
theorem rdl_len (ls : List Str) : (rdl ls).length = ls.length := by simp [rdl]
theorem rdl_get {ls : List Str} {k : Nat} (h : k < ls.length) : (rdl ls).getD k B0 = (bareR (ls.getD k [])).getD B0 := by
  simp [rdl, List.getD_eq_getElem?_getD, List.getElem?_eq_getElem h]
theorem rdl_sm (ls : List Str) : allB (rdl ls) = true := by
  refine List.all_eq_true.2 fun b hb => ?_
  obtain ⟨w, _, rfl⟩ := List.mem_map.1 hb
  obtain ⟨w1, w2⟩ := smW_wds w
  cases h : bareR w with
  | none => exact smb_B0
  | some b =>
    have : b = prdB (wdsOf w) := by
      by_cases hc : (tokLine w).isSome = true ∧ bok (prdB (wdsOf w)) = true ∧ btxt (prdB (wdsOf w)) = w
      · rw [bareR_some hc.1 hc.2.1 hc.2.2] at h; exact (Option.some.inj h).symm
      · rw [bareR_none hc] at h; cases h
    rw [this]; exact prdB_sm w1
theorem ball_bad {s : Str} {k : Nat} (hk : k < (tLines s).length) (h : (bareR ((tLines s).getD k [])).isSome = false) : ball s = ([], false) := by
  unfold ball
  rw [if_neg]
  intro q
  have := List.all_eq_true.1 q _ (getD_mem (d := []) hk)
  rw [h] at this; cases this
theorem ball_good {s : Str} (h : (tLines s).all (fun w => (bareR w).isSome) = true) : ball s = brun (rdl (tLines s)) := by unfold ball; rw [if_pos h]; rfl
theorem bLR_take {l : List Bl} {k : Nat} (hk : k < l.length) : bLR (l.take (k + 1)) = bLR (l.take k) ++ [bC (l.getD k B0)] := by
  rw [List.take_add_one, List.getElem?_eq_getElem hk, bLR_app, List.getD_eq_getElem?_getD, List.getElem?_eq_getElem hk]; rfl
theorem all_take {α : Type} {p : α → Bool} {l : List α} {k : Nat} {d : α} (h : k < l.length) : (l.take (k + 1)).all p = ((l.take k).all p && p (l.getD k d)) := by
  rw [List.take_add_one, List.getElem?_eq_getElem h, List.all_append, List.getD_eq_getElem?_getD, List.getElem?_eq_getElem h]; simp
theorem iBareAllO_a (s : Str) (hs : s.length ≤ 281474976710656) : ACall En 17 [.s s] [] [.ow 0 1 0 (ball s).1.length, .b (ball s).2] [⟨3, 1, inR (ball s).1⟩] := by
  have hL := tLines_len s
  have hM := tLines_mem s
  have hG := @ball_good s
  have hB := @ball_bad s
  generalize hT : tLines s = ls at *
  refine acall_of_body (fn := Tryz.f17) [33] Tryz.func17 rfl rfl (by simp) fun C => ?_
  rw [entry_eq]
  simp only [Tryz.ntmps17, List.length_cons, List.length_nil, Nat.reduceAdd, Nat.reduceSub, List.replicate_succ, List.replicate_zero, List.cons_append, List.nil_append, numL]
  refine AWp.seq ?_
  refine AWp.rgn [] (by simp only [go_sem, seval, strR_len, strR_pure, bLR_pure, bC_eq, inR_pure]; rfl) ?_ ?_
  · (first | trivial | (simp; done) | (simpa using h13) | (simp at h13; simp [bLR_len, rdl_len]; omega))
  refine AWp.seq ?_
  refine AWp.rgn [] (by simp only [go_sem, seval, strR_len, strR_pure, bLR_pure, bC_eq, inR_pure]; rfl) ?_ ?_
  · (first | trivial | (simp; done) | (simpa using h13) | (simp at h13; simp [bLR_len, rdl_len]; omega))
  refine AWp.seqJ (fun u : Unit => ⟨[.no, .no, .no, .no, .sl false (bLR (rdl ls)), .no, .no, .no, .no, .no, .no, .no, .no, .no, .no, .no, .no, .no, .no, .no, .no, .no, .no, .no, .no, .no, .no, .no, .no, .no, .no, .no], memOf [], us []⟩) (fun u : Unit => ls.all (fun w => (bareR w).isSome) = true) ?_ (fun u hJ => ?_)
  · refine AWp.seq ?_
    refine AWp.rgn [call0 (show ACall En 20 [.s s] [] [.sl false (strR ls)] [] from hT ▸ iTextLines_a s hs)] (by simp only [go_sem, seval, strR_len, strR_pure, bLR_pure, bC_eq, inR_pure]; rfl) ?_ ?_
    · (first | trivial | (simp; done) | (simpa using h13) | (simp at h13; simp [bLR_len, rdl_len]; omega))
    refine AWp.block ?_
    refine AWp.loopK (fun k : Nat => ⟨[.no, .no, .no, .no, .ow 20 10 0 k, .no, .no, .no, .no, .no, .sl false (strR ls), .i .i64 ls.length, .i .i64 k, .no, .no, .no, .no, .no, .no, .no, .no, .no, .no, .no, .no, .no, .no, .no, .no, .no, .no, .no], memOf [(20, ⟨64, 10, bLR ((rdl ls).take k)⟩)], us [20]⟩) (fun k : Nat => k ≤ ls.length ∧ (ls.take k).all (fun w => (bareR w).isSome) = true) (fun k : Nat => ls.length - k) (0) ?_ ?_ (fun k hI => ?_)
    · exact ⟨by simp, by simp⟩
    · refine Can.trans (Can.ownSlot 4 20 64 10 (by simp only [go_sem, seval, strR_len, strR_pure, bLR_pure, bC_eq, inR_pure] <;> rfl) (by simp only [go_sem, seval, strR_len, strR_pure, bLR_pure, bC_eq, inR_pure]) (by simp only [go_sem, seval, strR_len, strR_pure, bLR_pure, bC_eq, inR_pure] <;> rfl)) ?_
      exact Can.weak (Weak.lit (by simp only [go_sem, seval, strR_len, strR_pure, bLR_pure, bC_eq, inR_pure, subM, leV, inns, innr, V.inn, us, true_or, or_true] <;> (simp)) (by simp only [go_sem, seval, strR_len, strR_pure, bLR_pure, bC_eq, inR_pure, subM, leV, inns, innr, V.inn, us, true_or, or_true]) (by simp only [go_sem, seval, strR_len, strR_pure, bLR_pure, bC_eq, inR_pure, subM, leV, inns, innr, V.inn, us, true_or, or_true] <;> (simp [bLR])))
    refine AWp.seq ?_
    refine AWp.rgn [] (by simp only [go_sem, seval, strR_len, strR_pure, bLR_pure, bC_eq, inR_pure]; rfl) ?_ ?_
    · (first | trivial | (simp; done) | (simpa using h13) | (simp at h13; simp [bLR_len, rdl_len]; omega))
    refine AWp.seq ?_
    refine AWp.condB (by simp only [go_sem, seval, strR_len, strR_pure, bLR_pure, bC_eq, inR_pure]; rfl) (by simp only [go_sem, seval, strR_len, strR_pure, bLR_pure, bC_eq, inR_pure]) (fun h13 => ?_) (fun h13 => ?_)
    · refine AWp.skip ?_
      refine AWp.seq ?_
      refine AWp.block ?_
      refine AWp.seq ?_
      refine AWp.rgn [] (by simp only [go_sem, seval, strR_len, strR_pure, bLR_pure, bC_eq, inR_pure, strR_get (show k < ls.length by simpa using h13)]; rfl) ?_ ?_
      · (first | trivial | (simp; done) | (simpa using h13) | (simp at h13; simp [bLR_len, rdl_len]; omega))
      refine AWp.seq ?_
      refine AWp.rgn [callI (k < ls.length) (fun h => iBareRead_a (ls.getD k []) (by have := hM _ (getD_mem (d := []) h); omega))] (by simp only [go_sem, seval, strR_len, strR_pure, bLR_pure, bC_eq, inR_pure]; rfl) ?_ ?_
      · (first | trivial | (simp; done) | (simpa using h13) | (simp at h13; simp [bLR_len, rdl_len]; omega))
      refine AWp.seq ?_
      refine AWp.seq ?_
      refine AWp.rgn [] (by simp only [go_sem, seval, strR_len, strR_pure, bLR_pure, bC_eq, inR_pure]; rfl) ?_ ?_
      · (first | trivial | (simp; done) | (simpa using h13) | (simp at h13; simp [bLR_len, rdl_len]; omega))
      refine AWp.condB (by simp only [go_sem, seval, strR_len, strR_pure, bLR_pure, bC_eq, inR_pure]; rfl) (by simp only [go_sem, seval, strR_len, strR_pure, bLR_pure, bC_eq, inR_pure]) (fun h22 => ?_) (fun h22 => ?_)
      · refine AWp.seq ?_
        refine AWp.rgn [] (by simp only [go_sem, seval, strR_len, strR_pure, bLR_pure, bC_eq, inR_pure]; rfl) ?_ ?_
        · (first | trivial | (simp; done) | (simpa using h13) | (simp at h13; simp [bLR_len, rdl_len]; omega))
        refine AWp.can (Can.ownSlot 2 33 3 1 (by simp only [go_sem, seval, strR_len, strR_pure, bLR_pure, bC_eq, inR_pure] <;> rfl) (by simp only [go_sem, seval, strR_len, strR_pure, bLR_pure, bC_eq, inR_pure]) (by simp only [go_sem, seval, strR_len, strR_pure, bLR_pure, bC_eq, inR_pure] <;> rfl)) ?_
        refine AWp.ret (And.intro (.inr rfl) ?_)
        exact Out.mem' (by simp only [Tryz.results17]; rfl) (by simp only [resCs, resC, go_sem, seval, strR_len, strR_pure, bLR_pure, bC_eq, inR_pure]) (by simp only [resV, rns, rn, go_sem, seval, strR_len, strR_pure, bLR_pure, bC_eq, inR_pure] <;> (rw [hB (by simpa using h13) (by simpa using h22)]; simp)) (by simp) rfl (by decide) (by simp only [go_sem, seval, strR_len, strR_pure, bLR_pure, bC_eq, inR_pure]) (by simp only [clrs, go_sem, seval, strR_len, strR_pure, bLR_pure, bC_eq, inR_pure]) (by simp only [memEq, go_sem, seval, strR_len, strR_pure, bLR_pure, bC_eq, inR_pure] <;> (rw [hB (by simpa using h13) (by simpa using h22)]; simp [inR]))
      · refine AWp.skip ?_
        refine AWp.rgn [] (by simp only [go_sem, seval, strR_len, strR_pure, bLR_pure, bC_eq, inR_pure]; rfl) ?_ ?_
        · (first | trivial | (simp; done) | (simpa using h13) | (simp at h13; simp [bLR_len, rdl_len]; omega))
        refine AWp.rgn [] (by simp only [go_sem, seval, strR_len, strR_pure, bLR_pure, bC_eq, inR_pure]; rfl) ?_ ?_
        · (first | trivial | (simp; done) | (simpa using h13) | (simp at h13; simp [bLR_len, rdl_len]; omega))
        refine Exists.intro (k + 1) ⟨?_, ?_, ?_⟩
        · simp at h13; exact ⟨by omega, by rw [all_take (d := []) h13, hI.2]; simpa using h22⟩
        · simp at h13; omega
        refine Can.trans (Can.swap 36 20 (by decide) (by decide) (by decide) (by decide) (by simp only [go_sem, seval, strR_len, strR_pure, bLR_pure, bC_eq, inR_pure, V.cl]) (by simp only [go_sem, seval, strR_len, strR_pure, bLR_pure, bC_eq, inR_pure, V.cl]) (by simp only [go_sem, seval, strR_len, strR_pure, bLR_pure, bC_eq, inR_pure, swL_get, sw, swM, rnB] <;> rfl) (by simp only [go_sem, seval, strR_len, strR_pure, bLR_pure, bC_eq, inR_pure, swL_get, sw, swM, rnB] <;> rfl) (by simp only [go_sem, seval, strR_len, strR_pure, bLR_pure, bC_eq, inR_pure, swL_get, sw, swM, rnB] <;> rfl)) ?_
        exact Can.weak (Weak.lit (by simp only [go_sem, seval, strR_len, strR_pure, bLR_pure, bC_eq, inR_pure, subM, leV, inns, innr, V.inn, us, true_or, or_true] <;> (rw [wrap64 (by simp at h13; omega) (by simp at h13; omega)]; simp)) (by simp only [go_sem, seval, strR_len, strR_pure, bLR_pure, bC_eq, inR_pure, subM, leV, inns, innr, V.inn, us, true_or, or_true]) (by simp only [go_sem, seval, strR_len, strR_pure, bLR_pure, bC_eq, inR_pure, subM, leV, inns, innr, V.inn, us, true_or, or_true] <;> (simp at h13; rw [bLR_take (by rw [rdl_len]; exact h13), rdl_get h13]; simp [bC_eq])))
    · refine AWp.exit ?_
      refine Exists.intro (()) ⟨?_, ?_⟩
      · simp at h13; have h2 := hI.2; rw [List.take_of_length_le (by omega)] at h2; exact h2
      refine Can.trans (Can.frz 20 (by simp only [go_sem, seval, strR_len, strR_pure, bLR_pure, bC_eq, inR_pure] <;> rfl) (by simp only [go_sem, seval, strR_len, strR_pure, bLR_pure, bC_eq, inR_pure]) (by simp only [go_sem, seval, strR_len, strR_pure, bLR_pure, bC_eq, inR_pure] <;> rfl) (by simp only [go_sem, seval, strR_len, strR_pure, bLR_pure, bC_eq, inR_pure] <;> rfl)) ?_
      exact Can.weak (Weak.lit (by simp only [go_sem, seval, strR_len, strR_pure, bLR_pure, bC_eq, inR_pure, subM, leV, inns, innr, V.inn, us, true_or, or_true] <;> (simp at h13; (obtain rfl : k = ls.length := (by omega)); simp [List.take_of_length_le, rdl_len, bLR_len, leV, ler_refl])) (by simp only [go_sem, seval, strR_len, strR_pure, bLR_pure, bC_eq, inR_pure, subM, leV, inns, innr, V.inn, us, true_or, or_true]) (by simp only [go_sem, seval, strR_len, strR_pure, bLR_pure, bC_eq, inR_pure, subM, leV, inns, innr, V.inn, us, true_or, or_true]))
  refine AWp.seq ?_
  refine AWp.rgn [callN [] [33] (iBareRunO_a (rdl ls) (rdl_sm ls) (by rw [rdl_len]; omega))] (by simp only [go_sem, seval, strR_len, strR_pure, bLR_pure, bC_eq, inR_pure]; rfl) ?_ ?_
  · (first | trivial | (simp; done) | (simpa using h13) | (simp at h13; simp [bLR_len, rdl_len]; omega))
  refine AWp.ret (And.intro (.inr rfl) ?_)
  exact Out.mem' (by simp only [Tryz.results17]; rfl) (by simp only [resCs, resC, go_sem, seval, strR_len, strR_pure, bLR_pure, bC_eq, inR_pure]) (by simp only [resV, rns, rn, go_sem, seval, strR_len, strR_pure, bLR_pure, bC_eq, inR_pure] <;> (rw [hG hJ])) (by simp) rfl (by decide) (by simp only [go_sem, seval, strR_len, strR_pure, bLR_pure, bC_eq, inR_pure]) (by simp only [clrs, go_sem, seval, strR_len, strR_pure, bLR_pure, bC_eq, inR_pure]) (by simp only [memEq, go_sem, seval, strR_len, strR_pure, bLR_pure, bC_eq, inR_pure] <;> (rw [hG hJ]; (try simp [rnr_pure, inR_pure])))
theorem iBareAll_a (s : Str) (hs : s.length ≤ 281474976710656) : ACall En 17 [.s s] [] [.sl false (inR (ball s).1), .b (ball s).2] [] :=
  ACall.frz1 (iBareAllO_a s hs) (by simp [frzs, frz, inR_len, List.take_of_length_le])
end

section
set_option maxRecDepth 100000
set_option maxHeartbeats 4000000
end
end Go.Proofs.YteihfmnmpdbkiaaGreatDoor
