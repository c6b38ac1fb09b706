/- Parts of the proof, one after another: What the library's functions answer: strings.Contains for a newline. | Copies of numbers; pages. | Pages: what a line makes; whether pages are the same. Conditions: none. -/
import Derived.Test.YteihfmnmpdbkiaaGreatDoorKw
import Derived.Lib.IndexAny
import Derived.Test.YteihfmnmpdbkiaaGreatDoorK7
import Derived.Test.YteihfmnmpdbkiaaGreatDoorKq
import Derived.Test.YteihfmnmpdbkiaaGreatDoorKh
import Derived.Test.YteihfmnmpdbkiaaGreatDoorK8
import Derived.Test.YteihfmnmpdbkiaaGreatDoorK6
import Derived.Test.YteihfmnmpdbkiaaGreatDoorKo
set_option linter.unusedVariables false
set_option linter.unusedSimpArgs false
namespace Go.Proofs.YteihfmnmpdbkiaaGreatDoor
section
open Go.RowKit
set_option maxRecDepth 100000

def hasNl (s : Str) : Bool := s.contains 10
theorem hasNl_a (s : Str) : ACall En 175 [.s s, .s [10]] [] [.b (hasNl s)] [] := by
  refine acall_ext (fn := Tryz.f175) Tryz.func175 rfl rfl fun S w xs hx _ _ => ?_
  simp only [VRs, VR] at hx
  obtain ⟨x, r, e1, rfl, y, q, e2, rfl, rfl⟩ := hx
  subst e2
  obtain rfl : xs = #[.string ⟨s.toArray⟩, .string ⟨[10].toArray⟩] := by apply Array.ext'; simpa using e1
  refine (Tryz.strings_Contains_one ⟨s.toArray⟩ 10 w).mono ?_
  rintro e w' ⟨rfl, rfl⟩
  refine ⟨[_], rfl, Below.refl _ _, .cons ?_ .nil⟩
  simp only [VR, hasNl]
  rw [Lib.contains_iff_indexByte]
end

section
set_option maxRecDepth 100000
set_option maxHeartbeats 4000000

theorem CloneNI_a : ACall En 176 [.sl false []] [] [.ow 0 1 0 0] [⟨3, 1, []⟩] := by
  refine acall_of_body (fn := Tryz.f176) [17] Tryz.func176 rfl rfl (by simp) fun C => ?_
  rw [entry_eq]
  simp only [Tryz.ntmps176, List.length_cons, List.length_nil, Nat.reduceAdd, Nat.reduceSub, List.replicate_succ, List.replicate_zero, List.cons_append, List.nil_append, numL]
  refine AWp.seq ?_
  refine AWp.rgn [] (by simp only [go_sem, seval]; rfl) ?_ ?_
  · first | trivial | simp
  refine AWp.seq ?_
  refine AWp.seq ?_
  refine AWp.rgnS [4] [nilO En] (by simp only [go_sem, seval]; rfl) ?_ ?_
  · first | trivial | simp
  refine AWp.condQ (by simp only [go_sem, seval] <;> rfl) (by simp only [go_sem, seval]) ?_ ?_
  · refine AWp.seq ?_
    refine AWp.rgn [] (by simp only [go_sem, seval]; rfl) ?_ ?_
    · first | trivial | simp
    refine AWp.can (Can.ownSlot 2 17 3 1 (by simp only [go_sem, seval] <;> rfl) (by simp only [go_sem, seval]) (by simp only [go_sem, seval] <;> rfl)) ?_
    refine AWp.ret (And.intro (.inr rfl) ?_)
    exact Out.mem' (by simp only [Tryz.results176]; rfl) (by simp only [resCs, resC, go_sem, seval]) (by simp only [resV, rns, rn, go_sem, seval] <;> (simp)) (by simp) rfl (by decide) (by simp only [go_sem, seval]) (by simp only [clrs, go_sem, seval]) (by simp only [memEq, go_sem, seval] <;> (simp))
  · refine AWp.skip ?_
    refine AWp.seq ?_
    refine AWp.rgn [] (by simp only [go_sem, seval]; rfl) ?_ ?_
    · first | trivial | simp
    refine AWp.ret (And.intro (.inr rfl) ?_)
    exact Out.mem' (by simp only [Tryz.results176]; rfl) (by simp only [resCs, resC, go_sem, seval]) (by simp only [resV, rns, rn, go_sem, seval] <;> (simp)) (by simp) rfl (by decide) (by simp only [go_sem, seval]) (by simp only [clrs, go_sem, seval]) (by simp only [memEq, go_sem, seval] <;> (simp))
theorem CloneCI_a (e : Int) (r : List Int) (hl : r.length < 1099511627776) : ACall En 176 [.sl false (inR (e :: r))] [] [.ow 0 1 0 (r.length + 1)] [⟨3, 1, inR (e :: r)⟩] := by
  refine acall_of_body (fn := Tryz.f176) [17] Tryz.func176 rfl rfl (by simp) fun C => ?_
  rw [entry_eq]
  simp only [Tryz.ntmps176, List.length_cons, List.length_nil, Nat.reduceAdd, Nat.reduceSub, List.replicate_succ, List.replicate_zero, List.cons_append, List.nil_append, numL]
  refine AWp.seq ?_
  refine AWp.rgn [] (by simp only [go_sem, seval, inR_pure, inR_len, inR_cons, purer, pures, V.pure]; rfl) ?_ ?_
  · first | trivial | simp
  refine AWp.seq ?_
  refine AWp.seq ?_
  refine AWp.rgnS [4] [nilO En] (by simp only [go_sem, seval, inR_pure, inR_len, inR_cons, purer, pures, V.pure]; rfl) ?_ ?_
  · first | trivial | simp
  refine AWp.condB (by simp only [go_sem, seval, inR_pure, inR_len, inR_cons, purer, pures, V.pure]; rfl) (by simp only [go_sem, seval, inR_pure, inR_len, inR_cons, purer, pures, V.pure]) (fun h4 => ?_) (fun h4 => ?_)
  · exact absurd h4 (by simp)
  · refine AWp.skip ?_
    refine AWp.seq ?_
    refine AWp.rgn [] (by simp only [go_sem, seval, inR_pure, inR_len, inR_cons, purer, pures, V.pure]; rfl) ?_ ?_
    · have := inR_len r; simp [inR_cons, inR_rows]; omega
    refine AWp.ret (And.intro (.inr rfl) ?_)
    exact Out.mem' (by simp only [Tryz.results176]; rfl) (by simp only [resCs, resC, go_sem, seval, inR_pure, inR_len, inR_cons, purer, pures, V.pure]) (by simp only [resV, rns, rn, go_sem, seval, inR_pure, inR_len, inR_cons, purer, pures, V.pure] <;> (simp [inR_len])) (by simp) rfl (by decide) (by simp only [go_sem, seval, inR_pure, inR_len, inR_cons, purer, pures, V.pure]) (by simp only [clrs, go_sem, seval, inR_pure, inR_len, inR_cons, purer, pures, V.pure]) (by simp only [memEq, go_sem, seval, inR_pure, inR_len, inR_cons, purer, pures, V.pure] <;> (simp [inR_cons, rnr_pure, inR_pure]))
theorem CloneI_a (l : List Int) (hl : l.length < 1099511627776) : ACall En 176 [.sl false (inR l)] [] [.ow 0 1 0 l.length] [⟨3, 1, inR l⟩] := by
  cases l with
  | nil => simp only [inR]; exact CloneNI_a
  | cons e r => exact CloneCI_a e r (by simp at hl; omega)
theorem ClipI_a (l : List Int) (hl : l.length < 1099511627776) : ACall En 97 [.ow 0 1 0 l.length] [⟨3, 1, inR l⟩] [.ow 0 1 0 l.length] [⟨3, 1, inR l⟩] := by
  refine acall_of_body (fn := Tryz.f97) [0] Tryz.func97 rfl rfl (by simp) fun C => ?_
  rw [entry_eq]
  simp only [Tryz.ntmps97, List.length_cons, List.length_nil, Nat.reduceAdd, Nat.reduceSub, List.replicate_succ, List.replicate_zero, List.cons_append, List.nil_append, numL]
  refine AWp.seq ?_
  refine AWp.rgn [] (by simp only [go_sem, seval, inR_pure, inR_len]; rfl) ?_ ?_
  · first | trivial | simp
  refine AWp.seq ?_
  refine AWp.rgn [] (by simp only [go_sem, seval, inR_pure, inR_len]; rfl) ?_ ?_
  · first | trivial | simp
  refine AWp.ret (And.intro (.inr rfl) ?_)
  exact Out.mem' (by simp only [Tryz.results97]; rfl) (by simp only [resCs, resC, go_sem, seval, inR_pure, inR_len]) (by simp only [resV, rns, rn, go_sem, seval, inR_pure, inR_len] <;> (simp)) (by simp) rfl (by decide) (by simp only [go_sem, seval, inR_pure, inR_len]) (by simp only [clrs, go_sem, seval, inR_pure, inR_len]) (by simp only [memEq, go_sem, seval, inR_pure, inR_len] <;> (simp [rnr_pure, inR_pure]))
theorem cloneI_a (l : List Int) (hl : l.length < 1099511627776) : ACall En 124 [.sl false (inR l)] [] [.ow 0 1 0 l.length] [⟨3, 1, inR l⟩] := by
  refine acall_of_body (fn := Tryz.f124) [14] Tryz.func124 rfl rfl (by simp) fun C => ?_
  rw [entry_eq]
  simp only [Tryz.ntmps124, List.length_cons, List.length_nil, Nat.reduceAdd, Nat.reduceSub, List.replicate_succ, List.replicate_zero, List.cons_append, List.nil_append, numL]
  refine AWp.seq ?_
  refine AWp.rgn [] (by simp only [go_sem, seval, inR_pure, inR_len, memEq, clrs, rnr_pure]; rfl) ?_ ?_
  · (first | trivial | (simp; done) | (simp [rnr_pure, inR_pure, ler_refl]; done))
  refine AWp.seq ?_
  refine AWp.rgn [callN [] [14] (CloneI_a l hl), callN [14] [] (ClipI_a l hl)] (by simp only [go_sem, seval, inR_pure, inR_len, memEq, clrs, rnr_pure]; rfl) ?_ ?_
  · (first | trivial | (simp; done) | (simp [rnr_pure, inR_pure, ler_refl]; done))
  refine AWp.ret (And.intro (.inr rfl) ?_)
  exact Out.mem' (by simp only [Tryz.results124]; rfl) (by simp only [resCs, resC, go_sem, seval, inR_pure, inR_len, memEq, clrs, rnr_pure]) (by simp only [resV, rns, rn, go_sem, seval, inR_pure, inR_len, memEq, clrs, rnr_pure] <;> (simp)) (by simp) rfl (by decide) (by simp only [go_sem, seval, inR_pure, inR_len, memEq, clrs, rnr_pure]) (by simp only [clrs, go_sem, seval, inR_pure, inR_len, memEq, clrs, rnr_pure]) (by simp only [memEq, go_sem, seval, inR_pure, inR_len, memEq, clrs, rnr_pure] <;> (simp [rnr_pure, inR_pure]))
theorem cloneI_f (l : List Int) (hl : l.length < 1099511627776) : ACall En 124 [.sl false (inR l)] [] [.sl false (inR l)] [] :=
  (cloneI_a l hl).frz1 (by simp [frzs, frz, inR_len, List.take_of_length_le])
structure Pg where
  line : Str
  good : Bool
  text : Str
  frm : List Int
deriving DecidableEq
def Pg0 : Pg := ⟨[], false, [], []⟩
def pgC (p : Pg) : List V := [.s p.line, .b p.good, .s p.text, .sl false (inR p.frm)]
theorem pgC_eq (p : Pg) : pgC p = [.s p.line, .b p.good, .s p.text, .sl false (inR p.frm)] := rfl
def isLn (s : Str) : Bool := tOk s && !hasNl s
theorem hasNl_spl (s : Str) : hasNl s = decide (1 < (spl s).length) := by
  unfold hasNl
  by_cases h : (10 : UInt8) ∈ s
  · obtain ⟨a, b, rfl, ha⟩ := List.eq_append_cons_of_mem h
    rw [spl_app ha]
    have := List.length_pos_iff.2 (spl_ne b)
    simp; omega
  · rw [spl_word h]; simpa using h
def pgOf (s : Str) : Pg := if isLn s then (match stmtR s with | none => ⟨s, false, [], []⟩ | some x => ⟨s, true, emT x, emF x⟩) else Pg0
theorem isLine_a (s : Str) (hs : s.length ≤ 281474976710656) : ACall En 123 [.s s] [] [.b (isLn s)] [] := by
  refine acall_of_body (fn := Tryz.f123) [] Tryz.func123 rfl rfl (by simp) fun C => ?_
  rw [entry_eq]
  simp only [Tryz.ntmps123, List.length_cons, List.length_nil, Nat.reduceAdd, Nat.reduceSub, List.replicate_succ, List.replicate_zero, List.cons_append, List.nil_append, numL]
  refine AWp.seq ?_
  refine AWp.rgn [] (by simp only [go_sem, seval]; rfl) ?_ ?_
  · (first | trivial | (simp; done))
  refine AWp.seq ?_
  refine AWp.rgn [call0 (iTextOk_a s hs), call0 (hasNl_a s)] (by simp only [go_sem, seval]; rfl) ?_ ?_
  · (first | trivial | (simp; done))
  refine AWp.ret (And.intro (.inr rfl) ?_)
  exact Out.plain (by simp only [Tryz.results123]; rfl) (by simp only [resCs, resC, go_sem, seval] <;> (split <;> rfl)) (by simp only [resV, go_sem, seval] <;> (rfl)) (by simp only [go_sem, seval])
end

section
set_option maxRecDepth 100000
set_option maxHeartbeats 4000000

theorem stmtR_sm (s : Str) : sms' ((stmtR s).getD S0) = true := by
  cases h : stmtR s with
  | none => decide
  | some x =>
    by_cases hc : (tokLine s).isSome = true ∧ sok (rdS (wdsOf s)) = true ∧ stxt (rdS (wdsOf s)) = s
    · rw [stmtR_some hc.1 hc.2.1 hc.2.2] at h
      cases h; exact rdS_sm (smW_wds s).1
    · rw [stmtR_none hc] at h; cases h
theorem stmtR_ok {s : Str} (h : (stmtR s).isSome = true) : sok ((stmtR s).getD S0) = true := by
  cases hx : stmtR s with
  | none => rw [hx] at h; cases h
  | some x => exact (stmtR_iff.1 hx).1
theorem pgOf_no {s : Str} (h : isLn s = false) : pgOf s = Pg0 := by unfold pgOf; rw [h]; rfl
theorem pgOf_bad {s : Str} (h : isLn s = true) (h2 : (stmtR s).isSome = false) : pgOf s = ⟨s, false, [], []⟩ := by
  unfold pgOf; rw [h]
  cases hx : stmtR s with
  | none => rfl
  | some x => rw [hx] at h2; cases h2
theorem pgOf_ok {s : Str} (h : isLn s = true) (h2 : (stmtR s).isSome = true) : pgOf s = ⟨s, true, emT ((stmtR s).getD S0), emF ((stmtR s).getD S0)⟩ := by
  unfold pgOf; rw [h]
  cases hx : stmtR s with
  | none => rw [hx] at h2; cases h2
  | some x => rfl
theorem emF_n {s : Sl} (h : sok s = true) : (emF s).length = (bw (bof s)).length := by
  have q := sok_len (sok_0 h)
  unfold emF; rw [if_pos h, ← from_eq (sok_0 h), fromS_len]
  rw [← q.2, List.length_map]
theorem emFL {s : Sl} (h : sok s = true) : (emF s).length < 1000000 := by rw [emF_n h]; have := (bw_le (bok0_bof (sok_0 h))).1; omega
theorem ln_eq (s : Str) : (!tOk s || decide (((spl s).length : Int) > 1)) = !isLn s := by
  unfold isLn; rw [hasNl_spl, Bool.not_and, Bool.not_not]; congr 1; exact decide_eq_decide.2 (by omega)
theorem iPageOf_a (s : Str) (hs : s.length ≤ 281474976710656) : ACall En 55 [.s s] [] [.ag (pgC (pgOf s))] [] := by
  have X1 := stmtR_sm s
  have X2 := @stmtR_ok s
  have P1 := @pgOf_no s
  have P2 := @pgOf_bad s
  have P3 := @pgOf_ok s
  have R := iStmtRead_a s hs
  generalize (stmtR s).getD S0 = x at *
  generalize (stmtR s).isSome = ok at *
  refine acall_of_body (fn := Tryz.f55) [] Tryz.func55 rfl rfl (by simp) fun C => ?_
  rw [entry_eq]
  simp only [Tryz.ntmps55, List.length_cons, List.length_nil, Nat.reduceAdd, Nat.reduceSub, List.replicate_succ, List.replicate_zero, List.cons_append, List.nil_append, numL]
  refine AWp.seq ?_
  refine AWp.rgn [] (by simp only [go_sem, seval, sC_eq, inR_pure, pgC_eq]; rfl) ?_ ?_
  · (first | trivial | (simp; done) | (simpa using h17) | exact ⟨by simpa using h17, rfl⟩)
  refine AWp.seq ?_
  refine AWp.seq ?_
  refine AWp.rgn [call0 (isLine_a s hs)] (by simp only [go_sem, seval, sC_eq, inR_pure, pgC_eq]; rfl) ?_ ?_
  · (first | trivial | (simp; done) | (simpa using h17) | exact ⟨by simpa using h17, rfl⟩)
  refine AWp.condB (by simp only [go_sem, seval, sC_eq, inR_pure, pgC_eq]; rfl) (by simp only [go_sem, seval, sC_eq, inR_pure, pgC_eq]) (fun h9 => ?_) (fun h9 => ?_)
  · refine AWp.seq ?_
    refine AWp.rgn [] (by simp only [go_sem, seval, sC_eq, inR_pure, pgC_eq]; rfl) ?_ ?_
    · (first | trivial | (simp; done) | (simpa using h17) | exact ⟨by simpa using h17, rfl⟩)
    refine AWp.ret (And.intro (.inr rfl) ?_)
    exact Out.plainL (by simp only [Tryz.results55]; rfl) (by simp only [resCs, resC, go_sem, seval, sC_eq, inR_pure, pgC_eq] <;> (split <;> rfl)) (by simp only [resV, go_sem, seval, sC_eq, inR_pure, pgC_eq] <;> (rw [P1 (by simpa using h9)]; simp [Pg0, les, leV, ler, inR])) (by simp only [go_sem, seval, sC_eq, inR_pure, pgC_eq])
  · refine AWp.skip ?_
    refine AWp.seq ?_
    refine AWp.rgn [call0 R] (by simp only [go_sem, seval, sC_eq, inR_pure, pgC_eq]; rfl) ?_ ?_
    · (first | trivial | (simp; done) | (simpa using h17) | exact ⟨by simpa using h17, rfl⟩)
    refine AWp.seq ?_
    refine AWp.seq ?_
    refine AWp.rgn [] (by simp only [go_sem, seval, sC_eq, inR_pure, pgC_eq]; rfl) ?_ ?_
    · (first | trivial | (simp; done) | (simpa using h17) | exact ⟨by simpa using h17, rfl⟩)
    refine AWp.condB (by simp only [go_sem, seval, sC_eq, inR_pure, pgC_eq]; rfl) (by simp only [go_sem, seval, sC_eq, inR_pure, pgC_eq]) (fun h17 => ?_) (fun h17 => ?_)
    · refine AWp.seq ?_
      refine AWp.rgn [] (by simp only [go_sem, seval, sC_eq, inR_pure, pgC_eq]; rfl) ?_ ?_
      · (first | trivial | (simp; done) | (simpa using h17) | exact ⟨by simpa using h17, rfl⟩)
      refine AWp.ret (And.intro (.inr rfl) ?_)
      exact Out.plainL (by simp only [Tryz.results55]; rfl) (by simp only [resCs, resC, go_sem, seval, sC_eq, inR_pure, pgC_eq] <;> (split <;> rfl)) (by simp only [resV, go_sem, seval, sC_eq, inR_pure, pgC_eq] <;> (rw [P2 (by simpa using h9) (by simpa using h17)]; simp [les, leV, ler, inR])) (by simp only [go_sem, seval, sC_eq, inR_pure, pgC_eq])
    · refine AWp.skip ?_
      refine AWp.seq ?_
      refine AWp.rgn [callI (ok = true) (fun h => emit_f x (X2 h) X1)] (by simp only [go_sem, seval, sC_eq, inR_pure, pgC_eq]; rfl) ?_ ?_
      · (first | trivial | (simp; done) | (simpa using h17) | exact ⟨by simpa using h17, rfl⟩)
      refine AWp.seq ?_
      refine AWp.rgn [callI (ok = true) (fun h => cloneI_f (emF x) (by have := emFL (X2 h); omega))] (by simp only [go_sem, seval, sC_eq, inR_pure, pgC_eq]; rfl) ?_ ?_
      · (first | trivial | (simp; done) | (simpa using h17) | exact ⟨by simpa using h17, rfl⟩)
      refine AWp.ret (And.intro (.inr rfl) ?_)
      exact Out.plainL (by simp only [Tryz.results55]; rfl) (by simp only [resCs, resC, go_sem, seval, sC_eq, inR_pure, pgC_eq] <;> (split <;> rfl)) (by simp only [resV, go_sem, seval, sC_eq, inR_pure, pgC_eq] <;> (rw [P3 (by simpa using h9) (by simpa using h17)]; simp [les, leV, ler, ler_refl])) (by simp only [go_sem, seval, sC_eq, inR_pure, pgC_eq])
theorem sPageOf_a (s : Str) (hs : s.length ≤ 281474976710656) : ACall En 54 [.s s] [] [.ag (pgC (pgOf s))] [] := by
  have X1 := stmtR_sm s
  have X2 := @stmtR_ok s
  have P1 := @pgOf_no s
  have P2 := @pgOf_bad s
  have P3 := @pgOf_ok s
  have R := sStmtRead_a s hs
  have hn := hasNl_spl s
  have hI : isLn s = (tOk s && !hasNl s) := rfl
  generalize (stmtR s).getD S0 = x at *
  generalize (stmtR s).isSome = ok at *
  refine acall_of_body (fn := Tryz.f54) [] Tryz.func54 rfl rfl (by simp) fun C => ?_
  rw [entry_eq]
  simp only [Tryz.ntmps54, List.length_cons, List.length_nil, Nat.reduceAdd, Nat.reduceSub, List.replicate_succ, List.replicate_zero, List.cons_append, List.nil_append, numL]
  refine AWp.seq ?_
  refine AWp.rgn [] (by simp only [go_sem, seval, sC_eq, inR_pure, pgC_eq, strR_len, strR_pure]; rfl) ?_ ?_
  · (first | trivial | (simp; done))
  refine AWp.seq ?_
  refine AWp.seq ?_
  refine AWp.rgn [call0 (sTextOk_a s hs), callI (tOk s = true) (fun h => l12Cut_a s (tOk_len h))] (by simp only [go_sem, seval, sC_eq, inR_pure, pgC_eq, strR_len, strR_pure]; rfl) ?_ ?_
  · (first | trivial | (simp; done))
  refine AWp.condB (by simp only [go_sem, seval, sC_eq, inR_pure, pgC_eq, strR_len, strR_pure]; rfl) (by simp only [go_sem, seval, sC_eq, inR_pure, pgC_eq, strR_len, strR_pure]) (fun h15 => ?_) (fun h15 => ?_)
  · refine AWp.seq ?_
    refine AWp.rgn [] (by simp only [go_sem, seval, sC_eq, inR_pure, pgC_eq, strR_len, strR_pure]; rfl) ?_ ?_
    · (first | trivial | (simp; done))
    refine AWp.ret (And.intro (.inr rfl) ?_)
    exact Out.plainL (by simp only [Tryz.results54]; rfl) (by simp only [resCs, resC, go_sem, seval, sC_eq, inR_pure, pgC_eq, strR_len, strR_pure] <;> (split <;> rfl)) (by simp only [resV, go_sem, seval, sC_eq, inR_pure, pgC_eq, strR_len, strR_pure] <;> (rw [ln_eq] at h15; rw [P1 (by simpa using h15)]; simp [Pg0, les, leV, ler, inR])) (by simp only [go_sem, seval, sC_eq, inR_pure, pgC_eq, strR_len, strR_pure])
  · refine AWp.skip ?_
    refine AWp.seq ?_
    refine AWp.rgn [call0 R] (by simp only [go_sem, seval, sC_eq, inR_pure, pgC_eq, strR_len, strR_pure]; rfl) ?_ ?_
    · (first | trivial | (simp; done))
    refine AWp.seq ?_
    refine AWp.seq ?_
    refine AWp.rgn [] (by simp only [go_sem, seval, sC_eq, inR_pure, pgC_eq, strR_len, strR_pure]; rfl) ?_ ?_
    · (first | trivial | (simp; done))
    refine AWp.condB (by simp only [go_sem, seval, sC_eq, inR_pure, pgC_eq, strR_len, strR_pure]; rfl) (by simp only [go_sem, seval, sC_eq, inR_pure, pgC_eq, strR_len, strR_pure]) (fun h23 => ?_) (fun h23 => ?_)
    · refine AWp.seq ?_
      refine AWp.rgn [] (by simp only [go_sem, seval, sC_eq, inR_pure, pgC_eq, strR_len, strR_pure]; rfl) ?_ ?_
      · (first | trivial | (simp; done))
      refine AWp.ret (And.intro (.inr rfl) ?_)
      exact Out.plainL (by simp only [Tryz.results54]; rfl) (by simp only [resCs, resC, go_sem, seval, sC_eq, inR_pure, pgC_eq, strR_len, strR_pure] <;> (split <;> rfl)) (by simp only [resV, go_sem, seval, sC_eq, inR_pure, pgC_eq, strR_len, strR_pure] <;> (rw [ln_eq] at h15; rw [P2 (by simpa using h15) (by simpa using h23)]; simp [les, leV, ler, inR])) (by simp only [go_sem, seval, sC_eq, inR_pure, pgC_eq, strR_len, strR_pure])
    · refine AWp.skip ?_
      refine AWp.seq ?_
      refine AWp.rgn [call0 (sEmitLine_a x X1)] (by simp only [go_sem, seval, sC_eq, inR_pure, pgC_eq, strR_len, strR_pure]; rfl) ?_ ?_
      · (first | trivial | (simp; done))
      refine AWp.seq ?_
      refine AWp.rgn [] (by simp only [go_sem, seval, sC_eq, inR_pure, pgC_eq, strR_len, strR_pure]; rfl) ?_ ?_
      · (first | trivial | (simp; done))
      refine AWp.ret (And.intro (.inr rfl) ?_)
      exact Out.plainL (by simp only [Tryz.results54]; rfl) (by simp only [resCs, resC, go_sem, seval, sC_eq, inR_pure, pgC_eq, strR_len, strR_pure] <;> (split <;> rfl)) (by simp only [resV, go_sem, seval, sC_eq, inR_pure, pgC_eq, strR_len, strR_pure] <;> (rw [ln_eq] at h15; rw [P3 (by simpa using h15) (by simpa using h23)]; simp [les, leV, ler, ler_refl])) (by simp only [go_sem, seval, sC_eq, inR_pure, pgC_eq, strR_len, strR_pure])
end
end Go.Proofs.YteihfmnmpdbkiaaGreatDoor
