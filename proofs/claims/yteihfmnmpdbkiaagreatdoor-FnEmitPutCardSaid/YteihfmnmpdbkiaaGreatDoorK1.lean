/- Parts of the proof, one after another: Whence the words of a program came, plainly. | Whence the words of a program came: the program's segsOf, EmitSegs. | Programs of lines of nothing have no type amiss: the program's ProgType. Conditions: none. -/
import Derived.Test.YteihfmnmpdbkiaaGreatDoorKy
import Derived.Test.YteihfmnmpdbkiaaGreatDoorKo
import Derived.Test.YteihfmnmpdbkiaaGreatDoorKn
import Derived.Test.YteihfmnmpdbkiaaGreatDoorKq
set_option linter.unusedVariables false
set_option linter.unusedSimpArgs false
namespace Go.Proofs.YteihfmnmpdbkiaaGreatDoor
section
abbrev Sg := Int × Int × Int × Int
def sgC (s : Sg) : List V := [.i .i64 s.1, .i .i64 s.2.1, .i .i64 s.2.2.1, .i .i64 s.2.2.2]
def sgR (l : List Sg) : List (List V) := l.map sgC
def G0 : Sg := (0, 0, 0, 0)
theorem sgR_len (l : List Sg) : (sgR l).length = l.length := by simp [sgR]
theorem sgR_pure : ∀ l : List Sg, purer (sgR l) = true
  | [] => rfl
  | _ :: r => by show (pures [_, _, _, _] && purer (sgR r)) = true; rw [sgR_pure r]; rfl
theorem sgR_app (a b : List Sg) : sgR (a ++ b) = sgR a ++ sgR b := by simp [sgR]
theorem sgR_get {l : List Sg} {k : Nat} (h : k < l.length) : (sgR l).getD k [] = sgC (l.getD k G0) := by
  simp [sgR, List.getD_eq_getElem?_getD, List.getElem?_eq_getElem h]
theorem sgR_rows (l : List Sg) : (∀ r, r ∈ sgR l → r.length = 4) = True := eq_true fun r hr => by obtain ⟨t, _, rfl⟩ := List.mem_map.1 hr; rfl
def T0k : Tk := ⟨0, [], 0⟩
def sg1 (line : Int) (x : Tk × Int) : Option Sg := if 0 ≤ x.2 then some (line, x.1.col, line, x.2) else none
def sgs (line : Int) (ts : List Tk) (fs : List Int) : List Sg := (ts.zip fs).filterMap (sg1 line)
def sgK (line : Int) (ts : List Tk) (fs : List Int) (k : Nat) : List Sg := ((ts.zip fs).take k).filterMap (sg1 line)
theorem sgK_zero (line : Int) (ts : List Tk) (fs : List Int) : sgK line ts fs 0 = [] := rfl
theorem sgK_succ {line : Int} {ts : List Tk} {fs : List Int} {k : Nat} (h1 : k < ts.length) (h2 : k < fs.length) : sgK line ts fs (k + 1) = sgK line ts fs k ++ (if 0 ≤ fs.getD k 0 then [(line, (ts.getD k T0k).col, line, fs.getD k 0)] else []) := by
  have hz : k < (ts.zip fs).length := by rw [List.length_zip]; omega
  unfold sgK
  rw [List.take_add_one, List.getElem?_eq_getElem hz, List.filterMap_append]
  congr 1
  rw [List.getElem_zip, List.getD_eq_getElem?_getD, List.getElem?_eq_getElem h2, List.getD_eq_getElem?_getD, List.getElem?_eq_getElem h1]
  simp only [Option.toList, Option.getD_some, List.filterMap_cons, List.filterMap_nil, sg1]
  split <;> simp_all
theorem sgK_end {line : Int} {ts : List Tk} {fs : List Int} {k : Nat} (h : ts.length ≤ k ∨ fs.length ≤ k) : sgK line ts fs k = sgs line ts fs := by
  unfold sgK sgs
  rw [List.take_of_length_le]
  rw [List.length_zip]; omega
theorem sgK_len (line : Int) (ts : List Tk) (fs : List Int) (k : Nat) : (sgK line ts fs k).length ≤ k := by
  unfold sgK
  have := List.length_filterMap_le (sg1 line) ((ts.zip fs).take k)
  rw [List.length_take] at this; omega
theorem sgs_len (line : Int) (ts : List Tk) (fs : List Int) : (sgs line ts fs).length ≤ fs.length := by
  unfold sgs
  have := List.length_filterMap_le (sg1 line) (ts.zip fs)
  rw [List.length_zip] at this; omega
def sgS (i : Nat) (s : Sl) : List Sg := sgs i ((tokLine (emT s)).getD []) (emF s)
def sgN (l : List Sl) : Nat → List Sg
  | 0 => []
  | k + 1 => sgN l k ++ sgS k (l.getD k S0)
def sgP (l : List Sl) : List Sg := if pok l then sgN l l.length else []
theorem tok_emT {s : Sl} (h : sok s = true) : tokLine (emT s) = some (tkOf 0 (bw (bof s))) := by rw [emT_btext h]; exact tok_btext (bok_bof h)
theorem tkOf_len (c : Int) (l : List Str) : (tkOf c l).length = l.length := by rw [← List.length_map (f := Tk.s), tkOf_s]
theorem emF_len {s : Sl} (h : sok s = true) : (emF s).length = (bw (bof s)).length := by
  have q := sok_len (sok_0 h)
  unfold emF; rw [if_pos h, ← from_eq (sok_0 h), fromS_len]
  rw [← q.2, List.length_map]
theorem emT_toks {s : Sl} (h : sok s = true) : ((tokLine (emT s)).getD []).length = (emF s).length := by
  rw [tok_emT h, Option.getD_some, tkOf_len, emF_len h]
theorem emF_76 {s : Sl} (h : sok s = true) : (emF s).length ≤ 76 := by
  rw [emF_len h]; exact (bw_le (bok0_bof (sok_0 h))).1
theorem sgS_len {i : Nat} {s : Sl} (h : sok s = true) : (sgS i s).length ≤ 76 := by
  have := sgs_len i ((tokLine (emT s)).getD []) (emF s)
  have := emF_76 h
  unfold sgS; omega
theorem sgN_len {l : List Sl} (h : ∀ k, k < l.length → sok (l.getD k S0) = true) : ∀ k, k ≤ l.length → (sgN l k).length ≤ 76 * k
  | 0, _ => by simp [sgN]
  | k + 1, hk => by
    have h1 := sgN_len h k (by omega)
    have h2 := sgS_len (i := k) (h k (by omega))
    rw [sgN, List.length_append]; omega
theorem sgN_le {l : List Sl} (h : pok l = true) {k : Nat} (hk : k ≤ l.length) : (sgN l k).length ≤ 1216 := by
  have h0 := pok_open h
  have := sgN_len h0.2.2 k hk
  omega
theorem sgP_le (l : List Sl) : (sgP l).length ≤ 1216 := by
  unfold sgP; split
  · rename_i h; exact sgN_le h (Nat.le_refl _)
  · simp
end

section
set_option maxRecDepth 100000
set_option maxHeartbeats 4000000

theorem ClipSeg_a (l : List Sg) (hl : l.length < 1099511627776) : ACall En 71 [.sl false (sgR l)] [] [.sl false (sgR l)] [] := by
  refine acall_of_body (fn := Tryz.f71) [] Tryz.func71 rfl rfl (by simp) fun C => ?_
  rw [entry_eq]
  simp only [Tryz.ntmps71, List.length_cons, List.length_nil, Nat.reduceAdd, Nat.reduceSub, List.replicate_succ, List.replicate_zero, List.cons_append, List.nil_append, numL]
  refine AWp.seq ?_
  refine AWp.rgn [] (by simp only [go_sem, seval, sgR_pure, sgR_len]; rfl) ?_ ?_
  · (first | trivial | (simp; done))
  refine AWp.seq ?_
  refine AWp.rgn [] (by simp only [go_sem, seval, sgR_pure, sgR_len]; rfl) ?_ ?_
  · (first | trivial | (simp; done))
  refine AWp.ret (And.intro (.inr rfl) ?_)
  exact Out.plainL (by simp only [Tryz.results71]; rfl) (by simp only [resCs, resC, go_sem, seval, sgR_pure, sgR_len] <;> (split <;> rfl)) (by simp only [resV, go_sem, seval, sgR_pure, sgR_len] <;> (rw [List.take_of_length_le (by rw [sgR_len]; exact Nat.le_refl _)]; exact ler_refl _)) (by simp only [go_sem, seval, sgR_pure, sgR_len])
theorem segsOf_a (i : Int) (t : Str) (fs : List Int) (ht : t.length ≤ 281474976710656) (hl : ((tokLine t).getD []).length ≤ fs.length) (hf : fs.length ≤ 1000000) : ACall En 70 [.i .i64 i, .s t, .sl false (inR fs)] [] [.sl false (sgR (sgs i ((tokLine t).getD []) fs))] [] := by
  have T := TokLine_a t ht
  generalize (tokLine t).getD [] = ts at *
  refine acall_of_body (fn := Tryz.f70) [] Tryz.func70 rfl rfl (by simp) fun C => ?_
  rw [entry_eq]
  simp only [Tryz.ntmps70, List.length_cons, List.length_nil, Nat.reduceAdd, Nat.reduceSub, List.replicate_succ, List.replicate_zero, List.cons_append, List.nil_append, numL]
  refine AWp.seq ?_
  refine AWp.rgn [] (by simp only [go_sem, seval, tkR_len, tkR_pure, inR_len, inR_pure, sgR_pure]; rfl) ?_ ?_
  · (first | trivial | (simp; done) | (simp only [decide_eq_true_eq] at h20; have q := sgK_len i ts fs k; simp [fsOk, sgR_len]; omega))
  refine AWp.seq ?_
  refine AWp.rgn [call0 T] (by simp only [go_sem, seval, tkR_len, tkR_pure, inR_len, inR_pure, sgR_pure]; rfl) ?_ ?_
  · (first | trivial | (simp; done) | (simp only [decide_eq_true_eq] at h20; have q := sgK_len i ts fs k; simp [fsOk, sgR_len]; omega))
  refine AWp.seq ?_
  refine AWp.rgn [] (by simp only [go_sem, seval, tkR_len, tkR_pure, inR_len, inR_pure, sgR_pure]; rfl) ?_ ?_
  · (first | trivial | (simp; done) | (simp only [decide_eq_true_eq] at h20; have q := sgK_len i ts fs k; simp [fsOk, sgR_len]; omega))
  refine AWp.seq ?_
  refine AWp.seq ?_
  refine AWp.rgn [] (by simp only [go_sem, seval, tkR_len, tkR_pure, inR_len, inR_pure, sgR_pure]; rfl) ?_ ?_
  · (first | trivial | (simp; done) | (simp only [decide_eq_true_eq] at h20; have q := sgK_len i ts fs k; simp [fsOk, sgR_len]; omega))
  refine AWp.block ?_
  refine AWp.loopK (fun k : Nat => ⟨[.i .i64 i, .no, .sl false (inR fs), .no, .no, .no, .no, .no, .no, .ow 20 4 0 (sgK i ts fs k).length, .no, .no, .no, .no, .no, .no, .no, .sl false (tkR ts), .i .i64 ts.length, .i .i64 k, .no, .no, .no, .no, .no, .no, .no, .no, .no, .no, .no, .no, .no, .no, .no, .no, .no, .no, .no, .no, .no, .no, .no, .no, .no], memOf [(20, ⟨47, 4, sgR (sgK i ts fs k)⟩)], us [20]⟩) (fun k : Nat => k ≤ ts.length) (fun k : Nat => ts.length - k) (0) ?_ ?_ (fun k hI => ?_)
  · simp
  · refine Can.trans (Can.ownSlot 9 20 47 4 (by simp only [go_sem, seval, tkR_len, tkR_pure, inR_len, inR_pure, sgR_pure] <;> rfl) (by simp only [go_sem, seval, tkR_len, tkR_pure, inR_len, inR_pure, sgR_pure]) (by simp only [go_sem, seval, tkR_len, tkR_pure, inR_len, inR_pure, sgR_pure] <;> rfl)) ?_
    exact Can.weak (Weak.lit (by simp only [go_sem, seval, tkR_len, tkR_pure, inR_len, inR_pure, sgR_pure, subM, leV, inns, innr, V.inn, us, true_or, or_true] <;> (simp [sgK_zero])) (by simp only [go_sem, seval, tkR_len, tkR_pure, inR_len, inR_pure, sgR_pure, subM, leV, inns, innr, V.inn, us, true_or, or_true]) (by simp only [go_sem, seval, tkR_len, tkR_pure, inR_len, inR_pure, sgR_pure, subM, leV, inns, innr, V.inn, us, true_or, or_true] <;> (simp [sgK_zero, sgR])))
  refine AWp.seq ?_
  refine AWp.rgn [] (by simp only [go_sem, seval, tkR_len, tkR_pure, inR_len, inR_pure, sgR_pure]; rfl) ?_ ?_
  · (first | trivial | (simp; done) | (simp only [decide_eq_true_eq] at h20; have q := sgK_len i ts fs k; simp [fsOk, sgR_len]; omega))
  refine AWp.seq ?_
  refine AWp.condB (by simp only [go_sem, seval, tkR_len, tkR_pure, inR_len, inR_pure, sgR_pure]; rfl) (by simp only [go_sem, seval, tkR_len, tkR_pure, inR_len, inR_pure, sgR_pure]) (fun h20 => ?_) (fun h20 => ?_)
  · refine AWp.skip ?_
    refine AWp.seqJ (fun u : Unit => ⟨[.i .i64 i, .no, .sl false (inR fs), .no, .no, .no, .no, .no, .no, .ow 20 4 0 (sgK i ts fs (k + 1)).length, .no, .no, .no, .no, .no, .no, .no, .sl false (tkR ts), .i .i64 ts.length, .i .i64 k, .no, .no, .no, .no, .no, .no, .no, .no, .no, .no, .no, .no, .no, .no, .no, .no, .no, .no, .no, .no, .no, .no, .no, .no, .no], memOf [(20, ⟨47, 4, sgR (sgK i ts fs (k + 1))⟩)], us [20]⟩) (fun u : Unit => True) ?_ (fun u hJ => ?_)
    · refine AWp.block ?_
      refine AWp.seq ?_
      refine AWp.rgn [] (by simp only [go_sem, seval, tkR_len, tkR_pure, inR_len, inR_pure, sgR_pure, tkR_get (show k < ts.length by simpa using h20)]; rfl) ?_ ?_
      · (first | trivial | (simp; done) | (simp only [decide_eq_true_eq] at h20; have q := sgK_len i ts fs k; simp [fsOk, sgR_len]; omega))
      refine AWp.seq ?_
      refine AWp.rgn [] (by simp only [go_sem, seval, tkR_len, tkR_pure, inR_len, inR_pure, sgR_pure, inR_get (show k < fs.length by (have h' : k < ts.length := (by simpa using h20)); omega)]; rfl) ?_ ?_
      · (first | trivial | (simp; done) | (simp only [decide_eq_true_eq] at h20; have q := sgK_len i ts fs k; simp [fsOk, sgR_len]; omega))
      refine AWp.condB (by simp only [go_sem, seval, tkR_len, tkR_pure, inR_len, inR_pure, sgR_pure]; rfl) (by simp only [go_sem, seval, tkR_len, tkR_pure, inR_len, inR_pure, sgR_pure]) (fun h28 => ?_) (fun h28 => ?_)
      · refine AWp.rgnD [] enM (by simp only [go_sem, seval, tkR_len, tkR_pure, inR_len, inR_pure, sgR_pure, inR_get (show k < fs.length by (have h' : k < ts.length := (by simpa using h20)); omega)]; rfl) (by rfl) ?_ ?_
        · (first | trivial | (simp; done) | (simp only [decide_eq_true_eq] at h20; have q := sgK_len i ts fs k; simp [fsOk, sgR_len]; omega))
        refine Exists.intro (()) ⟨?_, ?_⟩
        · trivial
        refine Can.trans (Can.swap 52 20 (by decide) (by decide) (by decide) (by decide) (by simp only [go_sem, seval, tkR_len, tkR_pure, inR_len, inR_pure, sgR_pure, V.cl]) (by simp only [go_sem, seval, tkR_len, tkR_pure, inR_len, inR_pure, sgR_pure, V.cl]) (by simp only [go_sem, seval, tkR_len, tkR_pure, inR_len, inR_pure, sgR_pure, swL_get, sw, swM, rnB] <;> rfl) (by simp only [go_sem, seval, tkR_len, tkR_pure, inR_len, inR_pure, sgR_pure, swL_get, sw, swM, rnB] <;> rfl) (by simp only [go_sem, seval, tkR_len, tkR_pure, inR_len, inR_pure, sgR_pure, swL_get, sw, swM, rnB] <;> rfl)) ?_
        exact Can.weak (Weak.lit (by simp only [go_sem, seval, tkR_len, tkR_pure, inR_len, inR_pure, sgR_pure, subM, leV, inns, innr, V.inn, us, true_or, or_true] <;> (simp only [decide_eq_true_eq] at h20; first | (rw [sgK_succ (by omega) (by omega), if_pos (by simpa using h28)]; simp; done) | (rw [sgK_succ (by omega) (by omega), if_neg (by simpa using h28)]; simp; done))) (by simp only [go_sem, seval, tkR_len, tkR_pure, inR_len, inR_pure, sgR_pure, subM, leV, inns, innr, V.inn, us, true_or, or_true]) (by simp only [go_sem, seval, tkR_len, tkR_pure, inR_len, inR_pure, sgR_pure, subM, leV, inns, innr, V.inn, us, true_or, or_true] <;> (simp only [decide_eq_true_eq] at h20; first | (rw [sgK_succ (by omega) (by omega), if_pos (by simpa using h28)]; simp [sgR, sgC, T0k]; done) | (rw [sgK_succ (by omega) (by omega), if_neg (by simpa using h28)]; simp; done))))
      · refine AWp.skip ?_
        refine Exists.intro (()) ⟨?_, ?_⟩
        · trivial
        exact Can.weak (Weak.lit (by simp only [go_sem, seval, tkR_len, tkR_pure, inR_len, inR_pure, sgR_pure, subM, leV, inns, innr, V.inn, us, true_or, or_true] <;> (simp only [decide_eq_true_eq] at h20; first | (rw [sgK_succ (by omega) (by omega), if_pos (by simpa using h28)]; simp; done) | (rw [sgK_succ (by omega) (by omega), if_neg (by simpa using h28)]; simp; done))) (by simp only [go_sem, seval, tkR_len, tkR_pure, inR_len, inR_pure, sgR_pure, subM, leV, inns, innr, V.inn, us, true_or, or_true]) (by simp only [go_sem, seval, tkR_len, tkR_pure, inR_len, inR_pure, sgR_pure, subM, leV, inns, innr, V.inn, us, true_or, or_true] <;> (simp only [decide_eq_true_eq] at h20; first | (rw [sgK_succ (by omega) (by omega), if_pos (by simpa using h28)]; simp [sgR, sgC, T0k]; done) | (rw [sgK_succ (by omega) (by omega), if_neg (by simpa using h28)]; simp; done))))
    refine AWp.rgn [] (by simp only [go_sem, seval, tkR_len, tkR_pure, inR_len, inR_pure, sgR_pure]; rfl) ?_ ?_
    · (first | trivial | (simp; done) | (simp only [decide_eq_true_eq] at h20; have q := sgK_len i ts fs k; simp [fsOk, sgR_len]; omega))
    refine Exists.intro (k + 1) ⟨?_, ?_, ?_⟩
    · simp at h20; omega
    · simp at h20; omega
    exact Can.weak (Weak.lit (by simp only [go_sem, seval, tkR_len, tkR_pure, inR_len, inR_pure, sgR_pure, subM, leV, inns, innr, V.inn, us, true_or, or_true] <;> (rw [wrap64 (by simp at h20; omega) (by simp at h20; omega)]; simp)) (by simp only [go_sem, seval, tkR_len, tkR_pure, inR_len, inR_pure, sgR_pure, subM, leV, inns, innr, V.inn, us, true_or, or_true]) (by simp only [go_sem, seval, tkR_len, tkR_pure, inR_len, inR_pure, sgR_pure, subM, leV, inns, innr, V.inn, us, true_or, or_true]))
  · refine AWp.exit ?_
    refine AWp.seq ?_
    refine AWp.rgn [] (by simp only [go_sem, seval, tkR_len, tkR_pure, inR_len, inR_pure, sgR_pure]; rfl) ?_ ?_
    · (first | trivial | (simp; done) | (simp only [decide_eq_true_eq] at h20; have q := sgK_len i ts fs k; simp [fsOk, sgR_len]; omega))
    refine AWp.frz 20 (by simp only [go_sem, seval, tkR_len, tkR_pure, inR_len, inR_pure, sgR_pure]; rfl) (by simp only [go_sem, seval, tkR_len, tkR_pure, inR_len, inR_pure, sgR_pure]) (by simp only [go_sem, seval, tkR_len, tkR_pure, inR_len, inR_pure, sgR_pure]; rfl) (by simp only [go_sem, seval, tkR_len, tkR_pure, inR_len, inR_pure, sgR_pure]; rfl) ?_
    refine AWp.ret (And.intro (.inr rfl) ?_)
    exact Out.plain (by simp only [Tryz.results70]; rfl) (by simp only [resCs, resC, go_sem, seval, tkR_len, tkR_pure, inR_len, inR_pure, sgR_pure] <;> (split <;> rfl)) (by simp only [resV, go_sem, seval, tkR_len, tkR_pure, inR_len, inR_pure, sgR_pure] <;> (simp only [decide_eq_false_iff_not] at h20; rw [sgK_end (.inl (by omega))]; simp [List.take_of_length_le, sgR_len, peel])) (by simp only [go_sem, seval, tkR_len, tkR_pure, inR_len, inR_pure, sgR_pure])
theorem iEmitSegs_a (l : List Sl) (hs : allS l = true) (hl : l.length < 4611686018427387904) : ACall En 19 [.sl false (sR l)] [] [.sl false (sgR (sgP l))] [] := by
  have hE : ∀ k, pok l = true ∧ k < l.length → ACall En 70 [.i .i64 k, .s (emT (l.getD k S0)), .sl false (inR (emF (l.getD k S0)))] [] [.sl false (sgR (sgS k (l.getD k S0)))] [] := fun k h =>
    have hk := (pok_open h.1).2.2 k h.2
    segsOf_a k _ _ (by have := emT_le hk; omega) (by rw [emT_toks hk]; exact Nat.le_refl _) (by have := emF_76 hk; omega)
  refine acall_of_body (fn := Tryz.f19) [] Tryz.func19 rfl rfl (by simp) fun C => ?_
  rw [entry_eq]
  simp only [Tryz.ntmps19, List.length_cons, List.length_nil, Nat.reduceAdd, Nat.reduceSub, List.replicate_succ, List.replicate_zero, List.cons_append, List.nil_append, numL]
  refine AWp.seq ?_
  refine AWp.rgn [] (by simp only [go_sem, seval, sR_len, sR_pure, sC_eq, inR_pure, sgR_pure, sgR_len]; rfl) ?_ ?_
  · (first | trivial | (simp; done) | (simp only [decide_eq_true_eq] at h14; have hk : k < l.length := (by omega); have h2 := (pok_open hI.2).2.2 k hk; have q1 := sgN_le hI.2 (k := k) (by omega); have q2 := sgS_len (i := k) h2; first | exact ⟨hk, h2⟩ | omega | exact ⟨⟨hI.2, hk⟩, fun r hr => (by rw [sgR_rows] at *; exact trivial), by simp, by omega⟩ | (refine ⟨⟨hI.2, hk⟩, of_eq_true (sgR_rows _), by simp, by omega⟩)))
  refine AWp.seq ?_
  refine AWp.seq ?_
  refine AWp.rgn [call0 (iProgOk_a l hs hl)] (by simp only [go_sem, seval, sR_len, sR_pure, sC_eq, inR_pure, sgR_pure, sgR_len]; rfl) ?_ ?_
  · (first | trivial | (simp; done) | (simp only [decide_eq_true_eq] at h14; have hk : k < l.length := (by omega); have h2 := (pok_open hI.2).2.2 k hk; have q1 := sgN_le hI.2 (k := k) (by omega); have q2 := sgS_len (i := k) h2; first | exact ⟨hk, h2⟩ | omega | exact ⟨⟨hI.2, hk⟩, fun r hr => (by rw [sgR_rows] at *; exact trivial), by simp, by omega⟩ | (refine ⟨⟨hI.2, hk⟩, of_eq_true (sgR_rows _), by simp, by omega⟩)))
  refine AWp.condB (by simp only [go_sem, seval, sR_len, sR_pure, sC_eq, inR_pure, sgR_pure, sgR_len]; rfl) (by simp only [go_sem, seval, sR_len, sR_pure, sC_eq, inR_pure, sgR_pure, sgR_len]) (fun h10 => ?_) (fun h10 => ?_)
  · refine AWp.seq ?_
    refine AWp.rgn [] (by simp only [go_sem, seval, sR_len, sR_pure, sC_eq, inR_pure, sgR_pure, sgR_len]; rfl) ?_ ?_
    · (first | trivial | (simp; done) | (simp only [decide_eq_true_eq] at h14; have hk : k < l.length := (by omega); have h2 := (pok_open hI.2).2.2 k hk; have q1 := sgN_le hI.2 (k := k) (by omega); have q2 := sgS_len (i := k) h2; first | exact ⟨hk, h2⟩ | omega | exact ⟨⟨hI.2, hk⟩, fun r hr => (by rw [sgR_rows] at *; exact trivial), by simp, by omega⟩ | (refine ⟨⟨hI.2, hk⟩, of_eq_true (sgR_rows _), by simp, by omega⟩)))
    refine AWp.ret (And.intro (.inr rfl) ?_)
    exact Out.plainL (by simp only [Tryz.results19]; rfl) (by simp only [resCs, resC, go_sem, seval, sR_len, sR_pure, sC_eq, inR_pure, sgR_pure, sgR_len] <;> (split <;> rfl)) (by simp only [resV, go_sem, seval, sR_len, sR_pure, sC_eq, inR_pure, sgR_pure, sgR_len] <;> (simp at h10; simp [sgP, h10, sgR, ler])) (by simp only [go_sem, seval, sR_len, sR_pure, sC_eq, inR_pure, sgR_pure, sgR_len])
  · refine AWp.skip ?_
    refine AWp.seq ?_
    refine AWp.rgn [] (by simp only [go_sem, seval, sR_len, sR_pure, sC_eq, inR_pure, sgR_pure, sgR_len]; rfl) ?_ ?_
    · (first | trivial | (simp; done) | (simp only [decide_eq_true_eq] at h14; have hk : k < l.length := (by omega); have h2 := (pok_open hI.2).2.2 k hk; have q1 := sgN_le hI.2 (k := k) (by omega); have q2 := sgS_len (i := k) h2; first | exact ⟨hk, h2⟩ | omega | exact ⟨⟨hI.2, hk⟩, fun r hr => (by rw [sgR_rows] at *; exact trivial), by simp, by omega⟩ | (refine ⟨⟨hI.2, hk⟩, of_eq_true (sgR_rows _), by simp, by omega⟩)))
    refine AWp.seqJ (fun u : Unit => ⟨[.no, .no, .no, .sl false (sgR (sgN l l.length)), .no, .no, .no, .no, .no, .no, .no, .no, .no, .no, .no, .no, .no, .no, .no, .no, .no, .no, .no, .no, .no, .no, .no, .no, .no, .no, .no, .no], memOf [], us []⟩) (fun u : Unit => pok l = true) ?_ (fun u hJ => ?_)
    · refine AWp.seq ?_
      refine AWp.rgn [] (by simp only [go_sem, seval, sR_len, sR_pure, sC_eq, inR_pure, sgR_pure, sgR_len]; rfl) ?_ ?_
      · (first | trivial | (simp; done) | (simp only [decide_eq_true_eq] at h14; have hk : k < l.length := (by omega); have h2 := (pok_open hI.2).2.2 k hk; have q1 := sgN_le hI.2 (k := k) (by omega); have q2 := sgS_len (i := k) h2; first | exact ⟨hk, h2⟩ | omega | exact ⟨⟨hI.2, hk⟩, fun r hr => (by rw [sgR_rows] at *; exact trivial), by simp, by omega⟩ | (refine ⟨⟨hI.2, hk⟩, of_eq_true (sgR_rows _), by simp, by omega⟩)))
      refine AWp.block ?_
      refine AWp.loopK (fun k : Nat => ⟨[.no, .no, .no, .ow 20 4 0 (sgN l k).length, .no, .no, .no, .no, .no, .no, .no, .sl false (sR l), .i .i64 l.length, .i .i64 k, .no, .no, .no, .no, .no, .no, .no, .no, .no, .no, .no, .no, .no, .no, .no, .no, .no, .no], memOf [(20, ⟨47, 4, sgR (sgN l k)⟩)], us [20]⟩) (fun k : Nat => k ≤ l.length ∧ pok l = true) (fun k : Nat => l.length - k) (0) ?_ ?_ (fun k hI => ?_)
      · exact ⟨by simp, by simpa using h10⟩
      · refine Can.trans (Can.ownSlot 3 20 47 4 (by simp only [go_sem, seval, sR_len, sR_pure, sC_eq, inR_pure, sgR_pure, sgR_len] <;> rfl) (by simp only [go_sem, seval, sR_len, sR_pure, sC_eq, inR_pure, sgR_pure, sgR_len]) (by simp only [go_sem, seval, sR_len, sR_pure, sC_eq, inR_pure, sgR_pure, sgR_len] <;> rfl)) ?_
        exact Can.weak (Weak.lit (by simp only [go_sem, seval, sR_len, sR_pure, sC_eq, inR_pure, sgR_pure, sgR_len, subM, leV, inns, innr, V.inn, us, true_or, or_true] <;> (simp [sgN])) (by simp only [go_sem, seval, sR_len, sR_pure, sC_eq, inR_pure, sgR_pure, sgR_len, subM, leV, inns, innr, V.inn, us, true_or, or_true]) (by simp only [go_sem, seval, sR_len, sR_pure, sC_eq, inR_pure, sgR_pure, sgR_len, subM, leV, inns, innr, V.inn, us, true_or, or_true] <;> (simp [sgN, sgR])))
      refine AWp.seq ?_
      refine AWp.rgn [] (by simp only [go_sem, seval, sR_len, sR_pure, sC_eq, inR_pure, sgR_pure, sgR_len]; rfl) ?_ ?_
      · (first | trivial | (simp; done) | (simp only [decide_eq_true_eq] at h14; have hk : k < l.length := (by omega); have h2 := (pok_open hI.2).2.2 k hk; have q1 := sgN_le hI.2 (k := k) (by omega); have q2 := sgS_len (i := k) h2; first | exact ⟨hk, h2⟩ | omega | exact ⟨⟨hI.2, hk⟩, fun r hr => (by rw [sgR_rows] at *; exact trivial), by simp, by omega⟩ | (refine ⟨⟨hI.2, hk⟩, of_eq_true (sgR_rows _), by simp, by omega⟩)))
      refine AWp.seq ?_
      refine AWp.condB (by simp only [go_sem, seval, sR_len, sR_pure, sC_eq, inR_pure, sgR_pure, sgR_len]; rfl) (by simp only [go_sem, seval, sR_len, sR_pure, sC_eq, inR_pure, sgR_pure, sgR_len]) (fun h14 => ?_) (fun h14 => ?_)
      · refine AWp.skip ?_
        refine AWp.seq ?_
        refine AWp.block ?_
        refine AWp.seq ?_
        refine AWp.rgn [] (by simp only [go_sem, seval, sR_len, sR_pure, sC_eq, inR_pure, sgR_pure, sgR_len, sR_get (show k < l.length by simpa using h14), sC_eq]; rfl) ?_ ?_
        · (first | trivial | (simp; done) | (simp only [decide_eq_true_eq] at h14; have hk : k < l.length := (by omega); have h2 := (pok_open hI.2).2.2 k hk; have q1 := sgN_le hI.2 (k := k) (by omega); have q2 := sgS_len (i := k) h2; first | exact ⟨hk, h2⟩ | omega | exact ⟨⟨hI.2, hk⟩, fun r hr => (by rw [sgR_rows] at *; exact trivial), by simp, by omega⟩ | (refine ⟨⟨hI.2, hk⟩, of_eq_true (sgR_rows _), by simp, by omega⟩)))
        refine AWp.seq ?_
        refine AWp.rgn [callI (k < l.length ∧ sok (l.getD k S0) = true) (fun h => emit_f (l.getD k S0) h.2 (allS_at hs h.1))] (by simp only [go_sem, seval, sR_len, sR_pure, sC_eq, inR_pure, sgR_pure, sgR_len]; rfl) ?_ ?_
        · (first | trivial | (simp; done) | (simp only [decide_eq_true_eq] at h14; have hk : k < l.length := (by omega); have h2 := (pok_open hI.2).2.2 k hk; have q1 := sgN_le hI.2 (k := k) (by omega); have q2 := sgS_len (i := k) h2; first | exact ⟨hk, h2⟩ | omega | exact ⟨⟨hI.2, hk⟩, fun r hr => (by rw [sgR_rows] at *; exact trivial), by simp, by omega⟩ | (refine ⟨⟨hI.2, hk⟩, of_eq_true (sgR_rows _), by simp, by omega⟩)))
        refine AWp.rgn [callI (pok l = true ∧ k < l.length) (hE k)] (by simp only [go_sem, seval, sR_len, sR_pure, sC_eq, inR_pure, sgR_pure, sgR_len]; rfl) ?_ ?_
        · (first | trivial | (simp; done) | (simp only [decide_eq_true_eq] at h14; have hk : k < l.length := (by omega); have h2 := (pok_open hI.2).2.2 k hk; have q1 := sgN_le hI.2 (k := k) (by omega); have q2 := sgS_len (i := k) h2; first | exact ⟨hk, h2⟩ | omega | exact ⟨⟨hI.2, hk⟩, fun r hr => (by rw [sgR_rows] at *; exact trivial), by simp, by omega⟩ | (refine ⟨⟨hI.2, hk⟩, of_eq_true (sgR_rows _), by simp, by omega⟩)))
        refine AWp.rgn [] (by simp only [go_sem, seval, sR_len, sR_pure, sC_eq, inR_pure, sgR_pure, sgR_len]; rfl) ?_ ?_
        · (first | trivial | (simp; done) | (simp only [decide_eq_true_eq] at h14; have hk : k < l.length := (by omega); have h2 := (pok_open hI.2).2.2 k hk; have q1 := sgN_le hI.2 (k := k) (by omega); have q2 := sgS_len (i := k) h2; first | exact ⟨hk, h2⟩ | omega | exact ⟨⟨hI.2, hk⟩, fun r hr => (by rw [sgR_rows] at *; exact trivial), by simp, by omega⟩ | (refine ⟨⟨hI.2, hk⟩, of_eq_true (sgR_rows _), by simp, by omega⟩)))
        refine Exists.intro (k + 1) ⟨?_, ?_, ?_⟩
        · simp at h14; exact ⟨by omega, hI.2⟩
        · simp at h14; omega
        refine Can.trans (Can.swap 38 20 (by decide) (by decide) (by decide) (by decide) (by simp only [go_sem, seval, sR_len, sR_pure, sC_eq, inR_pure, sgR_pure, sgR_len, V.cl]) (by simp only [go_sem, seval, sR_len, sR_pure, sC_eq, inR_pure, sgR_pure, sgR_len, V.cl]) (by simp only [go_sem, seval, sR_len, sR_pure, sC_eq, inR_pure, sgR_pure, sgR_len, swL_get, sw, swM, rnB] <;> rfl) (by simp only [go_sem, seval, sR_len, sR_pure, sC_eq, inR_pure, sgR_pure, sgR_len, swL_get, sw, swM, rnB] <;> rfl) (by simp only [go_sem, seval, sR_len, sR_pure, sC_eq, inR_pure, sgR_pure, sgR_len, swL_get, sw, swM, rnB] <;> rfl)) ?_
        exact Can.weak (Weak.lit (by simp only [go_sem, seval, sR_len, sR_pure, sC_eq, inR_pure, sgR_pure, sgR_len, subM, leV, inns, innr, V.inn, us, true_or, or_true] <;> (rw [wrap64 (by simp at h14; omega) (by simp at h14; omega)]; simp [sgN])) (by simp only [go_sem, seval, sR_len, sR_pure, sC_eq, inR_pure, sgR_pure, sgR_len, subM, leV, inns, innr, V.inn, us, true_or, or_true]) (by simp only [go_sem, seval, sR_len, sR_pure, sC_eq, inR_pure, sgR_pure, sgR_len, subM, leV, inns, innr, V.inn, us, true_or, or_true] <;> (simp [sgN, sgR_app])))
      · refine AWp.exit ?_
        refine Exists.intro (()) ⟨?_, ?_⟩
        · exact hI.2
        refine Can.trans (Can.frz 20 (by simp only [go_sem, seval, sR_len, sR_pure, sC_eq, inR_pure, sgR_pure, sgR_len] <;> rfl) (by simp only [go_sem, seval, sR_len, sR_pure, sC_eq, inR_pure, sgR_pure, sgR_len]) (by simp only [go_sem, seval, sR_len, sR_pure, sC_eq, inR_pure, sgR_pure, sgR_len] <;> rfl) (by simp only [go_sem, seval, sR_len, sR_pure, sC_eq, inR_pure, sgR_pure, sgR_len] <;> rfl)) ?_
        exact Can.weak (Weak.lit (by simp only [go_sem, seval, sR_len, sR_pure, sC_eq, inR_pure, sgR_pure, sgR_len, subM, leV, inns, innr, V.inn, us, true_or, or_true] <;> (simp at h14; (obtain rfl : k = l.length := (by omega)); simp [List.take_of_length_le, sgR_len, leV, ler_refl])) (by simp only [go_sem, seval, sR_len, sR_pure, sC_eq, inR_pure, sgR_pure, sgR_len, subM, leV, inns, innr, V.inn, us, true_or, or_true]) (by simp only [go_sem, seval, sR_len, sR_pure, sC_eq, inR_pure, sgR_pure, sgR_len, subM, leV, inns, innr, V.inn, us, true_or, or_true]))
    refine AWp.seq ?_
    refine AWp.rgn [callI (pok l = true) (fun h => ClipSeg_a (sgN l l.length) (by have := sgN_le h (Nat.le_refl _); omega))] (by simp only [go_sem, seval, sR_len, sR_pure, sC_eq, inR_pure, sgR_pure, sgR_len]; rfl) ?_ ?_
    · (first | trivial | (simp; done) | (simp only [decide_eq_true_eq] at h14; have hk : k < l.length := (by omega); have h2 := (pok_open hI.2).2.2 k hk; have q1 := sgN_le hI.2 (k := k) (by omega); have q2 := sgS_len (i := k) h2; first | exact ⟨hk, h2⟩ | omega | exact ⟨⟨hI.2, hk⟩, fun r hr => (by rw [sgR_rows] at *; exact trivial), by simp, by omega⟩ | (refine ⟨⟨hI.2, hk⟩, of_eq_true (sgR_rows _), by simp, by omega⟩)))
    refine AWp.ret (And.intro (.inr rfl) ?_)
    exact Out.plainL (by simp only [Tryz.results19]; rfl) (by simp only [resCs, resC, go_sem, seval, sR_len, sR_pure, sC_eq, inR_pure, sgR_pure, sgR_len] <;> (split <;> rfl)) (by simp only [resV, go_sem, seval, sR_len, sR_pure, sC_eq, inR_pure, sgR_pure, sgR_len] <;> (simp [sgP, hJ, ler_refl, leV])) (by simp only [go_sem, seval, sR_len, sR_pure, sC_eq, inR_pure, sgR_pure, sgR_len])
end

section
set_option maxRecDepth 100000
set_option maxHeartbeats 4000000
end
end Go.Proofs.YteihfmnmpdbkiaaGreatDoor
