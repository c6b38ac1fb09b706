/- Parts of the proof, one after another: Texts and their lines, plainly. | What the library's functions answer: strings.Split at a newline. | Texts and their lines: the program's TextOk, TextLines. Conditions: none. -/
import Derived.Test.YteihfmnmpdbkiaaGreatDoorKq
import Derived.Lib.Split
import Derived.Lib.IndexBytes
import Derived.Test.YteihfmnmpdbkiaaGreatDoorKf
import Derived.Lib.SmallJoins
import Derived.Lib.SplitLaws
import Derived.Test.YteihfmnmpdbkiaaGreatDoorKn
set_option linter.unusedVariables false
set_option linter.unusedSimpArgs false
namespace Go.Proofs.YteihfmnmpdbkiaaGreatDoor
section
def spl : Str → List Str
  | [] => [[]]
  | c :: l => if c = 10 then [] :: spl l else match spl l with
    | [] => [[c]]
    | w :: r => (c :: w) :: r
theorem spl_ne : ∀ l : Str, spl l ≠ []
  | [] => by simp [spl]
  | c :: l => by
    unfold spl
    split
    · simp
    · split <;> simp
theorem spl_nl (l : Str) : spl (10 :: l) = [] :: spl l := by simp [spl]
theorem spl_cons {c : UInt8} (h : c ≠ 10) {l : Str} {w : Str} {r : List Str} (hl : spl l = w :: r) : spl (c :: l) = (c :: w) :: r := by
  rw [spl, if_neg h, hl]
theorem spl_word : ∀ {w : Str}, (10 : UInt8) ∉ w → spl w = [w]
  | [], _ => rfl
  | c :: w, h => by
    rw [spl_cons (by rintro rfl; simp at h) (spl_word (w := w) fun q => h (by simp [q]))]
theorem spl_app : ∀ {w : Str}, (10 : UInt8) ∉ w → ∀ l, spl (w ++ 10 :: l) = w :: spl l
  | [], _, l => spl_nl l
  | c :: w, h, l => by
    rw [List.cons_append, spl_cons (by rintro rfl; simp at h) (spl_app (w := w) (fun q => h (by simp [q])) l)]
def tokW : Str → Int → Bool
  | [], _ => true
  | c :: l, w => if c = 10 then tokW l 0 else decide (32 ≤ c.toNat) && decide (c.toNat ≤ 126) && decide (w + 1 ≤ 120) && tokW l (w + 1)
def tOk (s : Str) : Bool := tokW s 0 && decide (s.length ≤ 4000)
end

section
open Go.RowKit
set_option maxRecDepth 100000
end

section
set_option maxRecDepth 100000
set_option maxHeartbeats 4000000

theorem tokW_at {s : Str} {k : Nat} (h : k < s.length) (w : Int) : tokW (s.drop k) w = if ((s.getD k 0).toNat : Int) = 10 then tokW (s.drop (k + 1)) 0 else decide (32 ≤ ((s.getD k 0).toNat : Int)) && decide (((s.getD k 0).toNat : Int) ≤ 126) && decide (w + 1 ≤ 120) && tokW (s.drop (k + 1)) (w + 1) := by
  have e : s.drop k = s.getD k 0 :: s.drop (k + 1) := by
    rw [List.drop_eq_getElem_cons h, List.getD_eq_getElem?_getD, List.getElem?_eq_getElem h]; rfl
  rw [e, tokW]
  by_cases hc : s.getD k 0 = 10
  · rw [if_pos hc, if_pos (by rw [hc]; rfl)]
  · rw [if_neg hc, if_neg (fun q => hc (by apply UInt8.toNat_inj.1; show _ = 10; omega))]
    congr 2
    congr 1
    · exact decide_eq_decide.2 (by omega)
    · exact decide_eq_decide.2 (by omega)
theorem tok_go {s : Str} {k : Nat} (h : k < s.length) {w : Int} (h15 : ¬ ((s.getD k 0).toNat : Int) = 10) : tokW (s.drop k) w = (!(decide (((s.getD k 0).toNat : Int) < 32) || decide (((s.getD k 0).toNat : Int) > 126) || decide (w + 1 > 120)) && tokW (s.drop (k + 1)) (w + 1)) := by
  rw [tokW_at h, if_neg h15]
  generalize ((s.getD k 0).toNat : Int) = c
  rw [show decide (32 ≤ c) = !decide (c < 32) by rw [← decide_not]; exact decide_eq_decide.2 (by omega), show decide (c ≤ 126) = !decide (c > 126) by rw [← decide_not]; exact decide_eq_decide.2 (by omega), show decide (w + 1 ≤ 120) = !decide (w + 1 > 120) by rw [← decide_not]; exact decide_eq_decide.2 (by omega)]
  cases decide (c < 32) <;> cases decide (c > 126) <;> cases decide (w + 1 > 120) <;> rfl
theorem tOk_len {s : Str} (h : tOk s = true) : s.length ≤ 4000 := by simp only [tOk, Bool.and_eq_true, decide_eq_true_eq] at h; exact h.2
theorem iTextOk_a (s : Str) (hs : s.length ≤ 281474976710656) : ACall En 72 [.s s] [] [.b (tOk s)] [] := by
  refine acall_of_body (fn := Tryz.f72) [] Tryz.func72 rfl rfl (by simp) fun C => ?_
  rw [entry_eq]
  simp only [Tryz.ntmps72, List.length_cons, List.length_nil, Nat.reduceAdd, Nat.reduceSub, List.replicate_succ, List.replicate_zero, List.cons_append, List.nil_append, numL]
  refine AWp.seq ?_
  refine AWp.rgn [] (by simp only [go_sem, seval]; rfl) ?_ ?_
  · (first | trivial | (simp; done))
  refine AWp.seq ?_
  refine AWp.rgn [] (by simp only [go_sem, seval]; rfl) ?_ ?_
  · (first | trivial | (simp; done))
  refine AWp.seq ?_
  refine AWp.seq ?_
  refine AWp.rgn [] (by simp only [go_sem, seval]; rfl) ?_ ?_
  · (first | trivial | (simp; done))
  refine AWp.block ?_
  refine AWp.loopK (fun q : Nat × Int => ⟨[.s s, .no, .no, .i .i64 q.2, .no, .no, .i .i64 s.length, .i .i64 q.1, .no, .no, .no, .no, .no, .no, .no, .no, .no, .no, .no, .no, .no, .no, .no, .no, .no, .no, .no, .no, .no, .no, .no, .no, .no, .no], memOf [], us []⟩) (fun q : Nat × Int => q.1 ≤ s.length ∧ 0 ≤ q.2 ∧ q.2 ≤ 120 ∧ tokW (s.drop q.1) q.2 = tokW s 0) (fun q : Nat × Int => s.length - q.1) ((0, 0)) ?_ ?_ (fun q hI => ?_)
  · exact ⟨by simp, by decide, by decide, rfl⟩
  · exact Can.weak (Weak.lit (by simp only [go_sem, seval, subM, leV, inns, innr, V.inn, us, true_or, or_true] <;> (simp)) (by simp only [go_sem, seval, subM, leV, inns, innr, V.inn, us, true_or, or_true]) (by simp only [go_sem, seval, subM, leV, inns, innr, V.inn, us, true_or, or_true]))
  refine AWp.seq ?_
  refine AWp.rgn [] (by simp only [go_sem, seval]; rfl) ?_ ?_
  · (first | trivial | (simp; done))
  refine AWp.seq ?_
  refine AWp.condB (by simp only [go_sem, seval]; rfl) (by simp only [go_sem, seval]) (fun h8 => ?_) (fun h8 => ?_)
  · refine AWp.skip ?_
    refine AWp.seqJ (fun p : Int => ⟨[.s s, .no, .no, .i .i64 p, .no, .no, .i .i64 s.length, .i .i64 q.1, .no, .no, .no, .no, .no, .no, .no, .no, .no, .no, .no, .no, .no, .no, .no, .no, .no, .no, .no, .no, .no, .no, .no, .no, .no, .no], memOf [], us []⟩) (fun p : Int => 0 ≤ p ∧ p ≤ 120 ∧ tokW (s.drop (q.1 + 1)) p = tokW s 0) ?_ (fun p hJ => ?_)
    · refine AWp.block ?_
      refine AWp.seq ?_
      refine AWp.rgn [] (by simp only [go_sem, seval]; rfl) ?_ ?_
      · (first | trivial | (simp; done))
      refine AWp.seq ?_
      refine AWp.rgn [] (by simp only [go_sem, seval]; rfl) ?_ ?_
      · (first | trivial | (simp; done))
      refine AWp.seq ?_
      refine AWp.rgn [] (by simp only [go_sem, seval]; rfl) ?_ ?_
      · simp at h8; simp; omega
      refine AWp.condB (by simp only [go_sem, seval]; rfl) (by simp only [go_sem, seval]) (fun h15 => ?_) (fun h15 => ?_)
      · refine AWp.rgn [] (by simp only [go_sem, seval]; rfl) ?_ ?_
        · (first | trivial | (simp; done))
        refine Exists.intro (0) ⟨?_, ?_⟩
        · first | (have e := tokW_at (show q.1 < s.length by simpa using h8) q.2; rw [if_pos (by simpa using h15)] at e; exact ⟨by decide, by decide, by rw [← e]; exact hI.2.2.2⟩) | (have e := tok_go (show q.1 < s.length by simpa using h8) (w := q.2) (by simpa using h15); rw [wrap64 (by omega) (by omega)] at h29; rw [h29] at e; simp only [Bool.or_eq_false_iff, decide_eq_false_iff_not] at h29; exact ⟨by omega, by omega, by rw [← hI.2.2.2, e]; rfl⟩)
        exact Can.weak (Weak.lit (by simp only [go_sem, seval, subM, leV, inns, innr, V.inn, us, true_or, or_true] <;> (rw [wrap64 (by omega) (by omega)])) (by simp only [go_sem, seval, subM, leV, inns, innr, V.inn, us, true_or, or_true]) (by simp only [go_sem, seval, subM, leV, inns, innr, V.inn, us, true_or, or_true]))
      · refine AWp.seq ?_
        refine AWp.rgn [] (by simp only [go_sem, seval]; rfl) ?_ ?_
        · simp only [decide_eq_true_eq] at h8; exact ⟨⟨⟨⟨by omega, by omega⟩, fun h => ⟨h, by omega, by omega⟩⟩, fun h => by rw [h]; rfl⟩, fun h => by rw [h]; rfl⟩
        refine AWp.condB (by simp only [go_sem, seval]; rfl) (by simp only [go_sem, seval]) (fun h29 => ?_) (fun h29 => ?_)
        · refine AWp.seq ?_
          refine AWp.rgn [] (by simp only [go_sem, seval]; rfl) ?_ ?_
          · (first | trivial | (simp; done))
          refine AWp.ret (And.intro (.inr rfl) ?_)
          exact Out.plain (by simp only [Tryz.results72]; rfl) (by simp only [resCs, resC, go_sem, seval] <;> (split <;> rfl)) (by simp only [resV, go_sem, seval] <;> (have e := tok_go (show q.1 < s.length by simpa using h8) (w := q.2) (by simpa using h15); rw [wrap64 (by omega) (by omega)] at h29; rw [h29] at e; unfold tOk; rw [← hI.2.2.2, e]; rfl)) (by simp only [go_sem, seval])
        · refine AWp.skip ?_
          refine Exists.intro (q.2 + 1) ⟨?_, ?_⟩
          · first | (have e := tokW_at (show q.1 < s.length by simpa using h8) q.2; rw [if_pos (by simpa using h15)] at e; exact ⟨by decide, by decide, by rw [← e]; exact hI.2.2.2⟩) | (have e := tok_go (show q.1 < s.length by simpa using h8) (w := q.2) (by simpa using h15); rw [wrap64 (by omega) (by omega)] at h29; rw [h29] at e; simp only [Bool.or_eq_false_iff, decide_eq_false_iff_not] at h29; exact ⟨by omega, by omega, by rw [← hI.2.2.2, e]; rfl⟩)
          exact Can.weak (Weak.lit (by simp only [go_sem, seval, subM, leV, inns, innr, V.inn, us, true_or, or_true] <;> (rw [wrap64 (by omega) (by omega)])) (by simp only [go_sem, seval, subM, leV, inns, innr, V.inn, us, true_or, or_true]) (by simp only [go_sem, seval, subM, leV, inns, innr, V.inn, us, true_or, or_true]))
    refine AWp.rgn [] (by simp only [go_sem, seval]; rfl) ?_ ?_
    · (first | trivial | (simp; done))
    refine Exists.intro ((q.1 + 1, p)) ⟨?_, ?_, ?_⟩
    · simp at h8; exact ⟨by dsimp only; omega, hJ.1, hJ.2.1, hJ.2.2⟩
    · simp at h8; dsimp only; omega
    exact Can.weak (Weak.lit (by simp only [go_sem, seval, subM, leV, inns, innr, V.inn, us, true_or, or_true] <;> (rw [wrap64 (by omega) (by omega)]; simp)) (by simp only [go_sem, seval, subM, leV, inns, innr, V.inn, us, true_or, or_true]) (by simp only [go_sem, seval, subM, leV, inns, innr, V.inn, us, true_or, or_true]))
  · refine AWp.exit ?_
    refine AWp.seq ?_
    refine AWp.rgn [] (by simp only [go_sem, seval]; rfl) ?_ ?_
    · (first | trivial | (simp; done))
    refine AWp.ret (And.intro (.inr rfl) ?_)
    exact Out.plain (by simp only [Tryz.results72]; rfl) (by simp only [resCs, resC, go_sem, seval] <;> (split <;> rfl)) (by simp only [resV, go_sem, seval] <;> (simp only [decide_eq_false_iff_not] at h8; have e := hI.2.2.2; rw [List.drop_of_length_le (by omega)] at e; unfold tOk; rw [← e]; simp only [tokW, Bool.true_and]; rw [show decide ((s.length : Int) ≤ 4000) = decide (s.length ≤ 4000) from decide_eq_decide.2 (by omega)])) (by simp only [go_sem, seval])
end
end Go.Proofs.YteihfmnmpdbkiaaGreatDoor
