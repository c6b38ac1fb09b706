/- The law FnEmitNone: what it answers. Conditions: none. -/
import Derived.Test.YteihfmnmpdbkiaaGreatDoorK1
import Derived.Test.YteihfmnmpdbkiaaGreatDoorKy
import Derived.Test.YteihfmnmpdbkiaaGreatDoorKo
set_option linter.unusedVariables false
set_option linter.unusedSimpArgs false
namespace Go.Proofs.YteihfmnmpdbkiaaGreatDoor
set_option maxRecDepth 100000
set_option maxHeartbeats 8000000

def nones (n : Nat) : List Sl := List.replicate n S0
theorem nones_mem {n : Nat} : ∀ s ∈ nones n, s = S0 := fun s hs => (List.mem_replicate.1 hs).2
theorem nones_len (n : Nat) : (nones n).length = n := List.length_replicate
theorem nones_pok {n : Nat} (h1 : 1 ≤ n) (h2 : n ≤ 16) : pok (nones n) = true := by
  simp only [pok, nones_len, decide_eq_true h1, decide_eq_true h2, Bool.true_and]
  exact List.all_eq_true.2 fun s hs => by rw [nones_mem s hs]; exact sok_S0
theorem nones_allS (n : Nat) : allS (nones n) = true := List.all_eq_true.2 fun s hs => by rw [nones_mem s hs]; decide
theorem fold_none : ∀ (l : List Bl) (r : Rs), (∀ b ∈ l, b.kind = 0) → l.foldl stepR r = r
  | [], _, _ => rfl
  | b :: l, r, h => by rw [List.foldl_cons, step_none (h b (by simp)), fold_none l r fun x hx => h x (by simp [hx])]
theorem nones_run {n : Nat} (h1 : 1 ≤ n) (h2 : n ≤ 16) : prun (nones n) = ([], true) := by
  unfold prun runs
  rw [if_pos (nones_pok h1 h2), fold_none]
  intro b hb
  obtain ⟨s, hs, rfl⟩ := List.mem_map.1 hb
  rw [nones_mem s hs]; rfl
theorem nones_sg {n : Nat} (h1 : 1 ≤ n) (h2 : n ≤ 16) : sgP (nones n) = [] := by
  unfold sgP
  rw [if_pos (nones_pok h1 h2), sgN_none nones_mem _ (Nat.le_refl _)]
theorem ler_rep {r r' : List V} (h : les r r') : ∀ n, ler (List.replicate n r) (List.replicate n r')
  | 0 => by simp [ler]
  | n + 1 => by simp only [List.replicate_succ, ler]; exact ⟨h, ler_rep h n⟩
theorem sR_nones (n : Nat) : sR (nones n) = List.replicate n (sC S0) := by simp [sR, nones]
theorem mod16 (k : Nat) : ∃ n, (1 : Int) + (k : Int).tmod 16 = ((n : Nat) : Int) ∧ 1 ≤ n ∧ n ≤ 16 := by
  refine ⟨1 + k % 16, ?_, by omega, by omega⟩
  rw [Int.tmod_eq_emod_of_nonneg (by omega)]; omega
theorem zero_pure (n : Nat) : purer (List.replicate n [V.i .i64 0, .s [], .s [], .i .i64 0, .i .i64 0, .s [], .sl true [], .i .i64 0, .i .i64 0, .s [], .sl true []]) = true :=
  purer_mem.2 fun r hr => by rw [(List.mem_replicate.1 hr).2]; rfl
theorem lawEmitNone_a (b : Str) : ACall En 3 [.sl false (byR b)] [] [.b true] [] := by
  obtain ⟨n, hn, n1, n2⟩ := mod16 b.length
  have hw : IntKind.i64.wrap ((1 : Int) + (b.length : Int).tmod 16) = (n : Int) := by rw [hn]; exact wrap64 (by omega) (by omega)
  have hp := nones_pok n1 n2
  have ha := nones_allS n
  have hE := emText_lines hp
  have hB : ball (emText (nones n)) = ([], true) := by rw [ball_emText hp, nones_run n1 n2]
  have hT : tLines (emText (nones n)) = (nones n).map emT := tLines_emText hp
  have hl : (emText (nones n)).length ≤ 2000 := by unfold emText; rw [if_pos hp]; exact (emTs_le hp).1
  have hln := nones_len n
  refine acall_of_body (fn := Tryz.f3) [] Tryz.func3 rfl rfl (by simp) fun C => ?_
  rw [entry_eq]
  simp only [Tryz.ntmps3, List.length_cons, List.length_nil, Nat.reduceAdd, Nat.reduceSub, List.replicate_succ, List.replicate_zero, List.cons_append, List.nil_append, numL]
  refine AWp.seq ?_
  refine AWp.rgn [] (by simp only [go_sem, seval, sR_len, sR_pure, sC_eq, inR_pure, strR_pure, sgR_pure, hln, zero_pure]; rfl) ?_ ?_
  · (first | trivial | (simp; done) | (simp; omega))
  refine AWp.seq ?_
  refine AWp.seq ?_
  refine AWp.rgn [] (by simp only [go_sem, seval, sR_len, sR_pure, sC_eq, inR_pure, strR_pure, sgR_pure, hln, zero_pure]; rfl) ?_ ?_
  · (first | trivial | (simp; done) | (simp; omega))
  refine AWp.condB (by simp only [go_sem, seval, sR_len, sR_pure, sC_eq, inR_pure, strR_pure, sgR_pure, hln, zero_pure]; rfl) (by simp only [go_sem, seval, sR_len, sR_pure, sC_eq, inR_pure, strR_pure, sgR_pure, hln, zero_pure]) (fun h12 => ?_) (fun h12 => ?_)
  · refine AWp.seq ?_
    refine AWp.rgn [] (by simp only [go_sem, seval, sR_len, sR_pure, sC_eq, inR_pure, strR_pure, sgR_pure, hln, zero_pure]; rfl) ?_ ?_
    · (first | trivial | (simp; done) | (simp; omega))
    refine AWp.ret (And.intro (.inr rfl) ?_)
    exact Out.plain (by simp only [Tryz.results3]; rfl) (by simp only [resCs, resC, go_sem, seval, sR_len, sR_pure, sC_eq, inR_pure, strR_pure, sgR_pure, hln, zero_pure] <;> (split <;> rfl)) (by simp only [resV, go_sem, seval, sR_len, sR_pure, sC_eq, inR_pure, strR_pure, sgR_pure, hln, zero_pure] <;> (simp)) (by simp only [go_sem, seval, sR_len, sR_pure, sC_eq, inR_pure, strR_pure, sgR_pure, hln, zero_pure])
  · refine AWp.skip ?_
    refine AWp.seq ?_
    refine AWp.rgn [] (by simp only [go_sem, seval, sR_len, sR_pure, sC_eq, inR_pure, strR_pure, sgR_pure, hln, zero_pure, hw]; rfl) ?_ ?_
    · (first | trivial | (simp; done) | (simp; omega))
    refine AWp.seqJ (fun u : Unit => ⟨[.no, .no, .no, .i .i64 n, .sl false (sR (nones n)), .no, .no, .no, .no, .no, .no, .no, .no, .no, .no, .no, .no, .no, .no, .no, .no, .no, .no, .no, .no, .no, .no, .no, .no, .no, .no, .no, .no, .no, .no, .no, .no, .no, .no, .no, .no, .no, .no, .no, .no, .no, .no, .no, .no, .no, .no, .no, .no, .no, .no, .no, .no, .no, .no, .no, .no, .no, .no, .no, .no, .no, .no, .no, .no, .no], memOf [], us []⟩) (fun u : Unit => True) ?_ (fun u hJ => ?_)
    · refine AWp.rgn [] (by simp only [go_sem, seval, sR_len, sR_pure, sC_eq, inR_pure, strR_pure, sgR_pure, hln, zero_pure, Int.toNat_natCast]; rfl) ?_ ?_
      · (first | trivial | (simp; done) | (simp; omega))
      refine Exists.intro (()) ⟨?_, ?_⟩
      · trivial
      refine Can.trans (Can.frz 28 (by simp only [go_sem, seval, sR_len, sR_pure, sC_eq, inR_pure, strR_pure, sgR_pure, hln, zero_pure] <;> rfl) (by simp only [go_sem, seval, sR_len, sR_pure, sC_eq, inR_pure, strR_pure, sgR_pure, hln, zero_pure]) (by simp only [go_sem, seval, sR_len, sR_pure, sC_eq, inR_pure, strR_pure, sgR_pure, hln, zero_pure] <;> rfl) (by simp only [go_sem, seval, sR_len, sR_pure, sC_eq, inR_pure, strR_pure, sgR_pure, hln, zero_pure] <;> rfl)) ?_
      exact Can.weak (Weak.lit (by simp only [go_sem, seval, sR_len, sR_pure, sC_eq, inR_pure, strR_pure, sgR_pure, hln, zero_pure, subM, leV, inns, innr, V.inn, us, true_or, or_true] <;> (rw [if_pos (by rw [List.length_replicate]; exact Nat.le_refl _), List.take_of_length_le (by rw [List.length_replicate]; exact Nat.le_refl _), sR_nones]; simp only [leV]; refine ⟨id, ler_rep ?_ n⟩; simp [les, leV, ler, sC_eq, S0, E0_k, E0_n, E0_s, E0_kids, eR_nil])) (by simp only [go_sem, seval, sR_len, sR_pure, sC_eq, inR_pure, strR_pure, sgR_pure, hln, zero_pure, subM, leV, inns, innr, V.inn, us, true_or, or_true]) (by simp only [go_sem, seval, sR_len, sR_pure, sC_eq, inR_pure, strR_pure, sgR_pure, hln, zero_pure, subM, leV, inns, innr, V.inn, us, true_or, or_true]))
    refine AWp.seq ?_
    refine AWp.rgn [call0 (iEmitText_a (nones n) ha (by omega))] (by simp only [go_sem, seval, sR_len, sR_pure, sC_eq, inR_pure, strR_pure, sgR_pure, hln, zero_pure]; rfl) ?_ ?_
    · (first | trivial | (simp; done) | (simp; omega))
    refine AWp.seq ?_
    refine AWp.rgn [call0 (iEmitLine_a S0 (by decide))] (by simp only [go_sem, seval, sR_len, sR_pure, sC_eq, inR_pure, strR_pure, sgR_pure, hln, zero_pure]; rfl) ?_ ?_
    · (first | trivial | (simp; done) | (simp; omega))
    refine AWp.seq ?_
    refine AWp.rgn [call0 (hB ▸ iBareAll_a (emText (nones n)) (by omega))] (by simp only [go_sem, seval, sR_len, sR_pure, sC_eq, inR_pure, strR_pure, sgR_pure, hln, zero_pure]; rfl) ?_ ?_
    · (first | trivial | (simp; done) | (simp; omega))
    refine AWp.seq ?_
    refine AWp.rgn [call0 (sEmitText_a (nones n) ha (by omega)), call0 (nones_sg n1 n2 ▸ iEmitSegs_a (nones n) ha (by omega)), call0 (hT ▸ iTextLines_a (emText (nones n)) (by omega)), call0 (progType_none (nones n) nones_mem ha hp)] (by simp only [go_sem, seval, sR_len, sR_pure, sC_eq, inR_pure, strR_pure, sgR_pure, hln, zero_pure]; rfl) ?_ ?_
    · (first | trivial | (simp; done) | (simp; omega))
    refine AWp.ret (And.intro (.inr rfl) ?_)
    exact Out.plain (by simp only [Tryz.results3]; rfl) (by simp only [resCs, resC, go_sem, seval, sR_len, sR_pure, sC_eq, inR_pure, strR_pure, sgR_pure, hln, zero_pure] <;> (split <;> rfl)) (by simp only [resV, go_sem, seval, sR_len, sR_pure, sC_eq, inR_pure, strR_pure, sgR_pure, hln, zero_pure] <;> (simp [emT_S0, emF_S0, inR, sgR, hln])) (by simp only [go_sem, seval, sR_len, sR_pure, sC_eq, inR_pure, strR_pure, sgR_pure, hln, zero_pure])
end Go.Proofs.YteihfmnmpdbkiaaGreatDoor
