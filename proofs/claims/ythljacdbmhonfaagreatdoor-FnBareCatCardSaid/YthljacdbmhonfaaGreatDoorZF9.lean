/- The law FnBareCat: what it answers. Conditions: none. -/
import Derived.Test.YthljacdbmhonfaaGreatDoorKs
import Derived.Test.YthljacdbmhonfaaGreatDoorKr
set_option linter.unusedVariables false
set_option linter.unusedSimpArgs false
namespace Go.Proofs.YthljacdbmhonfaaGreatDoor
set_option maxRecDepth 100000
set_option maxHeartbeats 8000000

theorem ler_app2 : ∀ {a a' b b' : List (List V)}, ler a a' → ler b b' → ler (a ++ b) (a' ++ b')
  | [], [], _, _, _, h => h
  | x :: a, y :: a', b, b', h, k => by simp only [ler, List.cons_append] at h ⊢; exact ⟨h.1, ler_app2 h.2 k⟩
  | [], _ :: _, _, _, h, _ | _ :: _, [], _, _, h, _ => by simp [ler] at h
/-- an operation of which it is known what it does, where it is carried out -/
def asO (E : Env) (e : Eff) : CallC E where
  ef := fun _ _ => e
  ob := fun o s => obO E o s ∧ evO E o s = e
  ok := fun o s ⟨h1, h2⟩ => h2 ▸ evO_ok h1
theorem pre_get {x y : List Int} (h : x <+: y) {k : Nat} (hk : k < x.length) : y.getD k 0 = x.getD k 0 := by
  obtain ⟨t, rfl⟩ := h
  simp only [List.getD_eq_getElem?_getD]; rw [List.getElem?_append_left hk]
theorem brun_len (l : List Bl) : (brun l).1.length ≤ 16 := by
  unfold brun
  split
  · rename_i h
    have := (runs_lt (l := l) (Nat.le_refl _) (lok_open h).2.1).2.2
    rwa [List.take_length] at this
  · simp
theorem cat_dead {u v : List Bl} {k : Nat} {P : Prop} (hy : v.all bok = true ∧ (brun u).1 <+: (brun (u ++ v)).1 ∨ v.all bok = false ∧ brun (u ++ v) = ([], false)) (h1 : k < (brun (u ++ v)).1.length) (h2 : k < (brun u).1.length ∧ ¬ (brun (u ++ v)).1.getD k 0 = (brun u).1.getD k 0) : P := by
  rcases hy with ⟨_, q⟩ | ⟨_, q⟩
  · exact absurd (pre_get q h2.1) h2.2
  · rw [q] at h1; simp at h1
theorem bLR_cons (b : Bl) (l : List Bl) : bLR (b :: l) = bC b :: bLR l := rfl
theorem brun_ok_lok {l : List Bl} (h : (brun l).2 = true) : lok l = true := by
  cases hl : lok l with
  | true => rfl
  | false => rw [brun_bad hl] at h; cases h
theorem lawBareCat_a (b c : Str) : ACall En 13 [.sl false (byR b), .sl false (byR c)] [] [.b true] [] := by
  have DA := DrawBareRun_a b
  have DB := DrawBareRun_a c
  obtain ⟨la, sa⟩ := dBR_p (b.take 2000)
  obtain ⟨lb, sb⟩ := dBR_p (c.take 2000)
  generalize dBR (b.take 2000) = u at *
  generalize dBR (c.take 2000) = v at *
  have s1 : allB (u ++ v) = true := by simp only [allB, List.all_append, Bool.and_eq_true] at sa sb ⊢; exact ⟨sa, sb⟩
  have s2 : allB (u ++ B0 :: v) = true := by simp only [allB, List.all_append, List.all_cons, Bool.and_eq_true] at sa sb ⊢; exact ⟨sa, by decide, sb⟩
  have hw : IntKind.i64.wrap ((u.length : Int) + v.length) = (u.length : Int) + v.length := wrap64 (by omega) (by omega)
  have hz : (brun u).2 = true ∧ u.length + v.length < 16 → brun (u ++ B0 :: v) = brun (u ++ v) := fun h => brun_apart u v h.2 (brun_ok_lok h.1)
  have hy : (brun u).2 = true ∧ u.length + v.length < 16 → (v.all bok = true ∧ (brun u).1 <+: (brun (u ++ v)).1 ∨ v.all bok = false ∧ brun (u ++ v) = ([], false)) := fun h => brun_app h.2 h.1
  refine acall_of_body (fn := Tryz.f13) [] Tryz.func13 rfl rfl (by simp) fun C => ?_
  rw [entry_eq]
  simp only [Tryz.ntmps13, List.length_cons, List.length_nil, Nat.reduceAdd, Nat.reduceSub, List.replicate_succ, List.replicate_zero, List.cons_append, List.nil_append, numL]
  refine AWp.seq ?_
  refine AWp.rgn [] (by simp only [go_sem, seval, asO, hw, List.length_append, bLR_len, bLR_pure, inR_len, inR_pure]; rfl) ?_ ?_
  · (first | trivial | (simp; done))
  refine AWp.seq ?_
  refine AWp.seq ?_
  refine AWp.rgn [] (by simp only [go_sem, seval, asO, hw, List.length_append, bLR_len, bLR_pure, inR_len, inR_pure]; rfl) ?_ ?_
  · (first | trivial | (simp; done))
  refine AWp.condB (by simp only [go_sem, seval, asO, hw, List.length_append, bLR_len, bLR_pure, inR_len, inR_pure]; rfl) (by simp only [go_sem, seval, asO, hw, List.length_append, bLR_len, bLR_pure, inR_len, inR_pure]) (fun h27 => ?_) (fun h27 => ?_)
  · refine AWp.seq ?_
    refine AWp.rgn [] (by simp only [go_sem, seval, asO, hw, List.length_append, bLR_len, bLR_pure, inR_len, inR_pure]; rfl) ?_ ?_
    · (first | trivial | (simp; done))
    refine AWp.ret (And.intro (.inr rfl) ?_)
    exact Out.plain (by simp only [Tryz.results13]; rfl) (by simp only [resCs, resC, go_sem, seval, asO, hw, List.length_append, bLR_len, bLR_pure, inR_len, inR_pure] <;> (split <;> rfl)) (by simp only [resV, go_sem, seval, asO, hw, List.length_append, bLR_len, bLR_pure, inR_len, inR_pure] <;> (simp)) (by simp only [go_sem, seval, asO, hw, List.length_append, bLR_len, bLR_pure, inR_len, inR_pure])
  · refine AWp.skip ?_
    refine AWp.seq ?_
    refine AWp.rgn [call0 DA] (by simp only [go_sem, seval, asO, hw, List.length_append, bLR_len, bLR_pure, inR_len, inR_pure]; rfl) ?_ ?_
    · (first | trivial | (simp; done))
    refine AWp.seq ?_
    refine AWp.rgn [call0 DB] (by simp only [go_sem, seval, asO, hw, List.length_append, bLR_len, bLR_pure, inR_len, inR_pure]; rfl) ?_ ?_
    · (first | trivial | (simp; done))
    refine AWp.seq ?_
    refine AWp.rgn [call0 (iBareRun_a u sa (by omega))] (by simp only [go_sem, seval, asO, hw, List.length_append, bLR_len, bLR_pure, inR_len, inR_pure]; rfl) ?_ ?_
    · (first | trivial | (simp; done))
    refine AWp.seq ?_
    refine AWp.rgn [call0 (sBareRun_a u sa (by omega))] (by simp only [go_sem, seval, asO, hw, List.length_append, bLR_len, bLR_pure, inR_len, inR_pure]; rfl) ?_ ?_
    · (first | trivial | (simp; done))
    refine AWp.seq ?_
    refine AWp.seq ?_
    refine AWp.rgn [] (by simp only [go_sem, seval, asO, hw, List.length_append, bLR_len, bLR_pure, inR_len, inR_pure]; rfl) ?_ ?_
    · (first | trivial | (simp; done))
    refine AWp.condB (by simp only [go_sem, seval, asO, hw, List.length_append, bLR_len, bLR_pure, inR_len, inR_pure]; rfl) (by simp only [go_sem, seval, asO, hw, List.length_append, bLR_len, bLR_pure, inR_len, inR_pure]) (fun h63 => ?_) (fun h63 => ?_)
    · refine AWp.seq ?_
      refine AWp.rgn [] (by simp only [go_sem, seval, asO, hw, List.length_append, bLR_len, bLR_pure, inR_len, inR_pure]; rfl) ?_ ?_
      · (first | trivial | (simp; done))
      refine AWp.ret (And.intro (.inr rfl) ?_)
      exact Out.plain (by simp only [Tryz.results13]; rfl) (by simp only [resCs, resC, go_sem, seval, asO, hw, List.length_append, bLR_len, bLR_pure, inR_len, inR_pure] <;> (split <;> rfl)) (by simp only [resV, go_sem, seval, asO, hw, List.length_append, bLR_len, bLR_pure, inR_len, inR_pure] <;> (simp)) (by simp only [go_sem, seval, asO, hw, List.length_append, bLR_len, bLR_pure, inR_len, inR_pure])
    · refine AWp.skip ?_
      refine AWp.seq ?_
      refine AWp.rgn [] (by simp only [go_sem, seval, asO, hw, List.length_append, bLR_len, bLR_pure, inR_len, inR_pure]; rfl) ?_ ?_
      · simp [bLR_rows, fsOk]; omega
      refine AWp.seqJ (fun w : Unit => ⟨[.no, .no, .no, .no, .no, .sl false (bLR u), .sl false (bLR v), .sl false (inR (brun u).1), .no, .no, .no, .sl false (bLR (u ++ v)), .sl false (bLR (u ++ B0 :: v)), .no, .no, .no, .no, .no, .no, .no, .no, .no, .no, .no, .no, .no, .no, .no, .no, .no, .no, .no, .no, .no, .no, .no, .no, .no, .no, .no, .no, .no, .no, .no, .no, .no, .no, .no, .no, .no, .no, .no, .no, .no, .no, .no, .no, .no, .no, .no, .no, .no, .no, .no, .no, .no, .no, .no, .no, .no, .no, .no, .no, .no, .no, .no, .no, .no, .no, .no, .no, .no, .no, .no, .no, .no, .no, .no, .no, .no, .no, .no, .no, .no, .no, .no, .no, .no, .no, .no, .no, .no, .no, .no, .no, .no, .no, .no, .no, .no, .no, .no, .no, .no, .no, .no, .no, .no, .no, .no, .no, .no, .no, .no, .no, .no, .no, .no, .no, .no, .no, .no, .no, .no, .no, .no, .no, .no, .no, .no, .no, .no, .no, .no, .no, .no, .no, .no, .no, .no, .no, .no, .no, .no, .no, .no, .no, .no, .no, .no, .no, .no, .no, .no, .no, .no, .no], memOf [], us []⟩) (fun w : Unit => (brun u).2 = true ∧ u.length + v.length < 16) ?_ (fun w hJ => ?_)
      · refine AWp.rgn [] (by simp only [go_sem, seval, asO, hw, List.length_append, bLR_len, bLR_pure, inR_len, inR_pure]; rfl) ?_ ?_
        · simp [bLR_rows, fsOk]; omega
        refine Exists.intro (()) ⟨?_, ?_⟩
        · simp at h63; exact ⟨by simp [h63], by omega⟩
        refine Can.trans (Can.frz 88 (by simp only [go_sem, seval, asO, hw, List.length_append, bLR_len, bLR_pure, inR_len, inR_pure] <;> rfl) (by simp only [go_sem, seval, asO, hw, List.length_append, bLR_len, bLR_pure, inR_len, inR_pure]) (by simp only [go_sem, seval, asO, hw, List.length_append, bLR_len, bLR_pure, inR_len, inR_pure] <;> rfl) (by simp only [go_sem, seval, asO, hw, List.length_append, bLR_len, bLR_pure, inR_len, inR_pure] <;> rfl)) ?_
        refine Can.trans (Can.frz 96 (by simp only [go_sem, seval, asO, hw, List.length_append, bLR_len, bLR_pure, inR_len, inR_pure] <;> rfl) (by simp only [go_sem, seval, asO, hw, List.length_append, bLR_len, bLR_pure, inR_len, inR_pure]) (by simp only [go_sem, seval, asO, hw, List.length_append, bLR_len, bLR_pure, inR_len, inR_pure] <;> rfl) (by simp only [go_sem, seval, asO, hw, List.length_append, bLR_len, bLR_pure, inR_len, inR_pure] <;> rfl)) ?_
        exact Can.weak (Weak.lit (by simp only [go_sem, seval, asO, hw, List.length_append, bLR_len, bLR_pure, inR_len, inR_pure, subM, leV, inns, innr, V.inn, us, true_or, or_true] <;> (simp [List.take_of_length_le, bLR_len, bLR_app, bLR_cons, leV, ler_refl]; refine ⟨by rw [frzr_pure _ (by rw [purer_app, bLR_pure, bLR_pure]; rfl)]; exact ler_refl _, ?_⟩; rw [List.take_of_length_le (by simp [bLR_len]; omega)]; exact ler_app2 (ler_refl _) (by simp only [ler]; exact ⟨by simp [les, leV, bC_eq, B0, E0_k, E0_n, E0_s, E0_kids, eR_nil, ler], ler_refl _⟩))) (by simp only [go_sem, seval, asO, hw, List.length_append, bLR_len, bLR_pure, inR_len, inR_pure, subM, leV, inns, innr, V.inn, us, true_or, or_true]) (by simp only [go_sem, seval, asO, hw, List.length_append, bLR_len, bLR_pure, inR_len, inR_pure, subM, leV, inns, innr, V.inn, us, true_or, or_true]))
      refine AWp.seq ?_
      refine AWp.rgn [call0 (iBareRun_a (u ++ v) s1 (by simp; omega))] (by simp only [go_sem, seval, asO, hw, List.length_append, bLR_len, bLR_pure, inR_len, inR_pure]; rfl) ?_ ?_
      · (first | trivial | (simp; done))
      refine AWp.seq ?_
      refine AWp.rgn [call0 (iBareRun_a (u ++ B0 :: v) s2 (by simp; omega))] (by simp only [go_sem, seval, asO, hw, List.length_append, bLR_len, bLR_pure, inR_len, inR_pure, hz hJ]; rfl) ?_ ?_
      · (first | trivial | (simp; done))
      refine AWp.seq ?_
      refine AWp.seq ?_
      refine AWp.rgn [] (by simp only [go_sem, seval, asO, hw, List.length_append, bLR_len, bLR_pure, inR_len, inR_pure]; rfl) ?_ ?_
      · (first | trivial | (simp; done))
      refine AWp.condB (by simp only [go_sem, seval, asO, hw, List.length_append, bLR_len, bLR_pure, inR_len, inR_pure]; rfl) (by simp only [go_sem, seval, asO, hw, List.length_append, bLR_len, bLR_pure, inR_len, inR_pure]) (fun h106 => ?_) (fun h106 => ?_)
      · simp at h106
      · refine AWp.skip ?_
        refine AWp.seq ?_
        refine AWp.seq ?_
        refine AWp.rgn [] (by simp only [go_sem, seval, asO, hw, List.length_append, bLR_len, bLR_pure, inR_len, inR_pure]; rfl) ?_ ?_
        · (first | trivial | (simp; done))
        refine AWp.block ?_
        refine AWp.loopK (fun k : Nat => ⟨[.no, .no, .no, .no, .no, .no, .sl false (bLR v), .sl false (inR (brun u).1), .no, .no, .no, .no, .no, .sl false (inR (brun (u ++ v)).1), .no, .sl false (inR (brun (u ++ v)).1), .no, .i .i64 k, .no, .no, .no, .no, .no, .no, .no, .no, .no, .no, .no, .no, .no, .no, .no, .no, .no, .no, .no, .no, .no, .no, .no, .no, .no, .no, .no, .no, .no, .no, .no, .no, .no, .no, .no, .no, .no, .no, .no, .no, .no, .no, .no, .no, .no, .no, .no, .no, .no, .no, .no, .no, .no, .no, .no, .no, .no, .no, .no, .no, .no, .no, .no, .no, .no, .no, .no, .no, .no, .no, .no, .no, .no, .no, .no, .no, .no, .no, .no, .no, .no, .no, .no, .no, .no, .no, .no, .no, .no, .no, .no, .no, .no, .no, .no, .no, .no, .no, .no, .no, .no, .no, .no, .no, .no, .no, .no, .no, .no, .no, .no, .no, .no, .no, .no, .no, .no, .no, .no, .no, .no, .no, .no, .no, .no, .no, .no, .no, .no, .no, .no, .no, .no, .no, .no, .no, .no, .no, .no, .no, .no, .no, .no, .no, .no, .no, .no, .no, .no], memOf [], us []⟩) (fun k : Nat => k ≤ (brun (u ++ v)).1.length ∧ ((brun u).2 = true ∧ u.length + v.length < 16)) (fun k : Nat => (brun (u ++ v)).1.length - k) (0) ?_ ?_ (fun k hI => ?_)
        · exact ⟨Nat.zero_le _, hJ⟩
        · exact Can.weak (Weak.lit (by simp only [go_sem, seval, asO, hw, List.length_append, bLR_len, bLR_pure, inR_len, inR_pure, subM, leV, inns, innr, V.inn, us, true_or, or_true] <;> (simp)) (by simp only [go_sem, seval, asO, hw, List.length_append, bLR_len, bLR_pure, inR_len, inR_pure, subM, leV, inns, innr, V.inn, us, true_or, or_true]) (by simp only [go_sem, seval, asO, hw, List.length_append, bLR_len, bLR_pure, inR_len, inR_pure, subM, leV, inns, innr, V.inn, us, true_or, or_true]))
        refine AWp.seq ?_
        refine AWp.seq ?_
        refine AWp.rgn [] (by simp only [go_sem, seval, asO, hw, List.length_append, bLR_len, bLR_pure, inR_len, inR_pure]; rfl) ?_ ?_
        · (first | trivial | (simp; done))
        refine AWp.condB (by simp only [go_sem, seval, asO, hw, List.length_append, bLR_len, bLR_pure, inR_len, inR_pure]; rfl) (by simp only [go_sem, seval, asO, hw, List.length_append, bLR_len, bLR_pure, inR_len, inR_pure]) (fun h110 => ?_) (fun h110 => ?_)
        · refine AWp.skip ?_
          refine AWp.seq ?_
          refine AWp.block ?_
          refine AWp.seq ?_
          refine AWp.rgnDS [135] [asO En { v := .i .i64 ((brun u).1.getD k 0) }] enM (by simp only [go_sem, seval, asO, hw, List.length_append, bLR_len, bLR_pure, inR_len, inR_pure, inR_get (show k < (brun (u ++ v)).1.length by simpa using h110)]; rfl) (by rfl) ?_ ?_
          · simp at h110; simp; refine ⟨⟨⟨h110, fun hk => ⟨hk, h110⟩⟩, fun hk => ⟨hk, ?_⟩⟩, fun hk => ⟨⟨hk, ?_⟩, ?_⟩⟩ <;> simp [inR, hk]
          refine AWp.condB (by simp only [go_sem, seval, asO, hw, List.length_append, bLR_len, bLR_pure, inR_len, inR_pure]; rfl) (by simp only [go_sem, seval, asO, hw, List.length_append, bLR_len, bLR_pure, inR_len, inR_pure]) (fun h138 => ?_) (fun h138 => ?_)
          · exact cat_dead (hy hI.2) (by simpa using h110) (by simpa using h138)
          · refine AWp.skip ?_
            refine AWp.rgn [] (by simp only [go_sem, seval, asO, hw, List.length_append, bLR_len, bLR_pure, inR_len, inR_pure]; rfl) ?_ ?_
            · (first | trivial | (simp; done))
            refine Exists.intro (k + 1) ⟨?_, ?_, ?_⟩
            · simp at h110; exact ⟨by omega, hI.2⟩
            · simp at h110; omega
            exact Can.weak (Weak.lit (by simp only [go_sem, seval, asO, hw, List.length_append, bLR_len, bLR_pure, inR_len, inR_pure, subM, leV, inns, innr, V.inn, us, true_or, or_true] <;> ((have hbl := brun_len (u ++ v)); rw [wrap64 (by simp at h110; omega) (by simp at h110; omega)]; simp)) (by simp only [go_sem, seval, asO, hw, List.length_append, bLR_len, bLR_pure, inR_len, inR_pure, subM, leV, inns, innr, V.inn, us, true_or, or_true]) (by simp only [go_sem, seval, asO, hw, List.length_append, bLR_len, bLR_pure, inR_len, inR_pure, subM, leV, inns, innr, V.inn, us, true_or, or_true]))
        · refine AWp.exit ?_
          refine AWp.seq ?_
          refine AWp.rgn [] (by simp only [go_sem, seval, asO, hw, List.length_append, bLR_len, bLR_pure, inR_len, inR_pure]; rfl) ?_ ?_
          · (first | trivial | (simp; done))
          refine AWp.seq ?_
          refine AWp.seq ?_
          refine AWp.rgn [] (by simp only [go_sem, seval, asO, hw, List.length_append, bLR_len, bLR_pure, inR_len, inR_pure]; rfl) ?_ ?_
          · (first | trivial | (simp; done))
          refine AWp.block ?_
          refine AWp.loopK (fun j : Nat => ⟨[.no, .no, .no, .no, .no, .no, .sl false (bLR v), .sl false (inR (brun u).1), .no, .no, .no, .no, .no, .sl false (inR (brun (u ++ v)).1), .no, .no, .no, .no, .b ((v.take j).any fun s => !bok s), .i .i64 j, .no, .no, .no, .no, .no, .no, .no, .no, .no, .no, .no, .no, .no, .no, .no, .no, .no, .no, .no, .no, .no, .no, .no, .no, .no, .no, .no, .no, .no, .no, .no, .no, .no, .no, .no, .no, .no, .no, .no, .no, .no, .no, .no, .no, .no, .no, .no, .no, .no, .no, .no, .no, .no, .no, .no, .no, .no, .no, .no, .no, .no, .no, .no, .no, .no, .no, .no, .no, .no, .no, .no, .no, .no, .no, .no, .no, .no, .no, .no, .no, .no, .no, .no, .no, .no, .no, .no, .no, .no, .no, .no, .no, .no, .no, .no, .no, .no, .no, .no, .no, .no, .no, .no, .no, .no, .no, .no, .no, .no, .no, .no, .no, .no, .no, .no, .no, .no, .no, .no, .no, .no, .no, .no, .no, .no, .no, .no, .no, .no, .no, .no, .no, .no, .no, .no, .no, .no, .no, .no, .no, .no, .no, .no, .no, .no, .no, .no], memOf [], us []⟩) (fun j : Nat => j ≤ v.length) (fun j : Nat => v.length - j) (0) ?_ ?_ (fun j hI => ?_)
          · simp
          · exact Can.weak (Weak.lit (by simp only [go_sem, seval, asO, hw, List.length_append, bLR_len, bLR_pure, inR_len, inR_pure, subM, leV, inns, innr, V.inn, us, true_or, or_true] <;> (simp)) (by simp only [go_sem, seval, asO, hw, List.length_append, bLR_len, bLR_pure, inR_len, inR_pure, subM, leV, inns, innr, V.inn, us, true_or, or_true]) (by simp only [go_sem, seval, asO, hw, List.length_append, bLR_len, bLR_pure, inR_len, inR_pure, subM, leV, inns, innr, V.inn, us, true_or, or_true]))
          refine AWp.seq ?_
          refine AWp.seq ?_
          refine AWp.rgn [] (by simp only [go_sem, seval, asO, hw, List.length_append, bLR_len, bLR_pure, inR_len, inR_pure]; rfl) ?_ ?_
          · (first | trivial | (simp; done))
          refine AWp.condB (by simp only [go_sem, seval, asO, hw, List.length_append, bLR_len, bLR_pure, inR_len, inR_pure]; rfl) (by simp only [go_sem, seval, asO, hw, List.length_append, bLR_len, bLR_pure, inR_len, inR_pure]) (fun h142 => ?_) (fun h142 => ?_)
          · refine AWp.skip ?_
            refine AWp.seq ?_
            refine AWp.block ?_
            refine AWp.rgn [callI (j < v.length) (fun h => sBareOk_a (v.getD j B0) (allB_at sb h))] (by simp only [go_sem, seval, asO, hw, List.length_append, bLR_len, bLR_pure, inR_len, inR_pure, bLR_get (show j < v.length by simpa using h142), bC_eq]; rfl) ?_ ?_
            · simp only [decide_eq_true_eq] at h142; refine ⟨⟨fun h => ⟨h, by omega, by omega⟩, fun h => ⟨h, by omega⟩⟩, fun h => by rw [h]; rfl⟩
            refine AWp.rgn [] (by simp only [go_sem, seval, asO, hw, List.length_append, bLR_len, bLR_pure, inR_len, inR_pure]; rfl) ?_ ?_
            · (first | trivial | (simp; done))
            refine Exists.intro (j + 1) ⟨?_, ?_, ?_⟩
            · simp at h142; omega
            · simp at h142; omega
            exact Can.weak (Weak.lit (by simp only [go_sem, seval, asO, hw, List.length_append, bLR_len, bLR_pure, inR_len, inR_pure, subM, leV, inns, innr, V.inn, us, true_or, or_true] <;> (simp only [decide_eq_true_eq] at h142; rw [wrap64 (by omega) (by omega), any_take (d := B0) (by omega)]; simp)) (by simp only [go_sem, seval, asO, hw, List.length_append, bLR_len, bLR_pure, inR_len, inR_pure, subM, leV, inns, innr, V.inn, us, true_or, or_true]) (by simp only [go_sem, seval, asO, hw, List.length_append, bLR_len, bLR_pure, inR_len, inR_pure, subM, leV, inns, innr, V.inn, us, true_or, or_true]))
          · refine AWp.exit ?_
            refine AWp.seq ?_
            refine AWp.rgn [] (by simp only [go_sem, seval, asO, hw, List.length_append, bLR_len, bLR_pure, inR_len, inR_pure]; rfl) ?_ ?_
            · intro h; rw [h]; rfl
            refine AWp.ret (And.intro (.inr rfl) ?_)
            exact Out.plain (by simp only [Tryz.results13]; rfl) (by simp only [resCs, resC, go_sem, seval, asO, hw, List.length_append, bLR_len, bLR_pure, inR_len, inR_pure] <;> (split <;> rfl)) (by simp only [resV, go_sem, seval, asO, hw, List.length_append, bLR_len, bLR_pure, inR_len, inR_pure] <;> (simp only [decide_eq_false_iff_not] at h142; (obtain rfl : j = v.length := (by omega)); rw [List.take_of_length_le (Nat.le_refl _), anyB]; rcases hy hJ with ⟨q1, q2⟩ | ⟨q1, q2⟩; (have := q2.length_le; simp [q1]; omega); (simp [q1, q2]))) (by simp only [go_sem, seval, asO, hw, List.length_append, bLR_len, bLR_pure, inR_len, inR_pure])
end Go.Proofs.YthljacdbmhonfaaGreatDoor
