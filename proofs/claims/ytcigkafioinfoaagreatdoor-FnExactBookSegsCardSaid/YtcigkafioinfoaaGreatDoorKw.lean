/- Texts and their lines, plainly. Conditions: none. -/
import Derived.Test.YtcigkafioinfoaaGreatDoorKq
import Derived.Lib.Split
import Derived.Lib.IndexBytes
import Derived.Test.YtcigkafioinfoaaGreatDoorKf
import Derived.Lib.SmallJoins
import Derived.Lib.SplitLaws
import Derived.Test.YtcigkafioinfoaaGreatDoorKn
set_option linter.unusedVariables false
set_option linter.unusedSimpArgs false
namespace Go.Proofs.YtcigkafioinfoaaGreatDoor
section
def spl : Str → List Str
 | [] => [[]]
 | c :: l => if c = 10 then [] :: spl l else match spl l with
  | [] => [[c]]
  | w :: r => (c :: w) :: r
theorem aju_ : ∀ l : Str, spl l ≠ []
 | [] => by simp [spl]
 | c :: l => by
  unfold spl
  split
  ·simp
  ·split <;> simp
theorem aj8_ (l : Str) : spl (10 :: l) = [] :: spl l := by simp [spl]
theorem wf_ {c : UInt8} (h : c ≠ 10) {l : Str} {w : Str} {r : List Str} (hl : spl l = w :: r) : spl (c :: l) = (c :: w) :: r := by
 rw [spl, if_neg h, hl]
theorem pz_ : ∀ {w : Str}, (10 : UInt8) ∉ w → spl w = [w]
 | [], _ => rfl
 | c :: w, h => by
  rw [wf_ (by rintro rfl; simp at h) (pz_ (w := w) fun q => h (by simp [q]))]
theorem tc_ : ∀ {w : Str}, (10 : UInt8) ∉ w → ∀ l, spl (w ++ 10 :: l) = w :: spl l
 | [], _, l => aj8_ l
 | c :: w, h, l => by
  rw [List.cons_append, wf_ (by rintro rfl; simp at h) (tc_ (w := w) (fun q => h (by simp [q])) l)]
def ja_ : Str → Int → Bool
 | [], _ => true
 | c :: l, w => if c = 10 then ja_ l 0 else decide (32 ≤ c.toNat) && decide (c.toNat ≤ 126) && decide (w + 1 ≤ 120) && ja_ l (w + 1)
def tOk (s : Str) : Bool := ja_ s 0 && decide (s.length ≤ 4000)
def prt (c : UInt8) : Bool := decide (32 ≤ c.toNat) && decide (c.toNat ≤ 126)
def lnOk (l : Str) : Prop := l.all prt = true ∧ l.length ≤ 120
theorem aab_ {c : UInt8} (h : c0_ c = true) : prt c = true := by
 simp only [c0_, prt, T5_, T3_] at *; omega
theorem aa4_ {c : UInt8} (h : cs_ c = true) : prt c = true := by
 simp only [cs_, prt, T5_, T3_] at *; omega
theorem ac3_ {s : Str} (h : fb_ s = true) : s.all prt = true := by
 simp only [fb_, T5_, beq_iff_eq] at h
 obtain ⟨h1, h2⟩ := h
 match s, h1, h2 with
 | [c], _, h2 =>
  have : c ∈ marks := by simpa using h2
  simp only [marks, List.mem_cons, List.not_mem_nil, or_false] at this
  rcases this with rfl | rfl | rfl | rfl | rfl | rfl | rfl | rfl <;> decide
theorem r2_ {w : Str} (h : ed_ w) : w.all prt = true := by
 unfold ed_ da_ at h
 split at h
 ·rename_i hw
  simp only [e1_, T5_] at hw
  exact List.all_eq_true.2 fun c hc => aab_ (List.all_eq_true.1 hw.1.1 c hc)
 ·split at h
  ·rename_i hw
   obtain ⟨n, _, rfl⟩ := dy_.1 hw
   exact List.all_eq_true.2 fun c hc => aa4_ ((j0_ c).2 (do_ n c hc))
  ·split at h
   ·rename_i hw; exact ac3_ hw
   ·exact absurd rfl h
theorem wm_ : ∀ {l : List Str}, (∀ w ∈ l, ed_ w) → (b9_ l).all prt = true
 | [], _ => rfl
 | [s], h => by rw [fr_]; exact r2_ (h s (by simp))
 | s :: x :: l, h => by
  rw [e5_, List.all_append, List.all_cons, r2_ (h s (by simp)), wm_ (l := x :: l) fun w hw => h w (by simp at hw ⊢; exact .inr hw)]
  rfl
theorem x5_ {b : Bl} (h : bok b = true) : lnOk (zs_ b) := ⟨wm_ (wh_ h), (l2_ h).1⟩
end
section
open Go.RowKit
set_option maxRecDepth 100000
end
section
set_option maxRecDepth 100000
set_option maxHeartbeats 4000000
theorem oe_ {s : Str} {k : Nat} (h : k < s.length) (w : Int) : ja_ (s.drop k) w = if ((s.getD k 0).toNat : Int) = 10 then ja_ (s.drop (k + 1)) 0 else decide (32 ≤ ((s.getD k 0).toNat : Int)) && decide (((s.getD k 0).toNat : Int) ≤ 126) && decide (w + 1 ≤ 120) && ja_ (s.drop (k + 1)) (w + 1) := by
 have e : s.drop k = s.getD k 0 :: s.drop (k + 1) := by
  rw [List.drop_eq_getElem_cons h, T8_, T6_ h]; rfl
 rw [e, ja_]
 by_cases hc : s.getD k 0 = 10
 ·rw [if_pos hc, if_pos (by rw [hc]; rfl)]
 ·rw [if_neg hc, if_neg (fun q => hc (by apply UInt8.toNat_inj.1; show _ = 10; omega))]
  congr 2
  congr 1
  ·exact decide_eq_decide.2 (by omega)
  ·exact decide_eq_decide.2 (by omega)
theorem m3_ {s : Str} {k : Nat} (h : k < s.length) {w : Int} (h15 : ¬ ((s.getD k 0).toNat : Int) = 10) : ja_ (s.drop k) w = (!(decide (((s.getD k 0).toNat : Int) < 32) || decide (((s.getD k 0).toNat : Int) > 126) || decide (w + 1 > 120)) && ja_ (s.drop (k + 1)) (w + 1)) := by
 rw [oe_ h, if_neg h15]
 generalize ((s.getD k 0).toNat : Int) = c
 rw [show decide (32 ≤ c) = !decide (c < 32) by rw [← decide_not]; exact decide_eq_decide.2 (by omega), show decide (c ≤ 126) = !decide (c > 126) by rw [← decide_not]; exact decide_eq_decide.2 (by omega), show decide (w + 1 ≤ 120) = !decide (w + 1 > 120) by rw [← decide_not]; exact decide_eq_decide.2 (by omega)]
 cases decide (c < 32) <;> cases decide (c > 126) <;> cases decide (w + 1 > 120) <;> rfl
theorem zh_ {s : Str} (h : tOk s = true) : s.length ≤ 4000 := by simp only [tOk, T5_, T3_] at h; exact h.2
theorem aac_ (s : Str) (hs : s.length ≤ 281474976710656) : ACall En 114 [.s s] [] [.b (tOk s)] [] := by
 refine al_ (fn := Tryz.f114) [] Tryz.func114 rfl rfl (by simp) fun C => ?_
 rw [ay_]
 simp only [Tryz.ntmps114, T7_, List.length_nil, Nat.reduceAdd, Nat.reduceSub, List.replicate_succ, List.replicate_zero, List.cons_append, List.nil_append, bs_]
 refine .seq (.rgn [] (by simp only [go_sem, seval]; rfl) ?_ ?_)
 ·first | trivial | simp
 refine .seq (.rgn [] (by simp only [go_sem, seval]; rfl) ?_ ?_)
 ·first | trivial | simp
 refine .seq (.seq (.rgn [] (by simp only [go_sem, seval]; rfl) ?_ ?_))
 ·first | trivial | simp
 refine .block (.loopK (fun q : Nat × Int => ⟨[.s s, .no, .no, .i .i64 q.2, .no, .no, .i .i64 s.length, .i .i64 q.1, .no, .no, .no, .no, .no, .no, .no, .no, .no, .no, .no, .no, .no, .no, .no, .no, .no, .no, .no, .no, .no, .no, .no, .no, .no, .no], a7_ [], us []⟩) (fun q : Nat × Int => q.1 ≤ s.length ∧ 0 ≤ q.2 ∧ q.2 ≤ 120 ∧ ja_ (s.drop q.1) q.2 = ja_ s 0) (fun q : Nat × Int => s.length - q.1) ((0, 0)) ?_ ?_ (fun q hI => ?_))
 ·exact ⟨by simp, by decide, by decide, rfl⟩
 ·exact Can.weak (Weak.lit (by simp only [go_sem, seval, at_, leV, aq_, ar_, V.inn, us, T9_, Ta_] <;> (simp)) (by simp only [go_sem, seval, at_, leV, aq_, ar_, V.inn, us, T9_, Ta_]) (by simp only [go_sem, seval, at_, leV, aq_, ar_, V.inn, us, T9_, Ta_]))
 refine .seq (.rgn [] (by simp only [go_sem, seval]; rfl) ?_ ?_)
 ·first | trivial | simp
 refine .seq (.condB (by simp only [go_sem, seval]; rfl) (by simp only [go_sem, seval]) (fun h8 => ?_) (fun h8 => ?_))
 ·refine .skip (.seqJ (fun p : Int => ⟨[.s s, .no, .no, .i .i64 p, .no, .no, .i .i64 s.length, .i .i64 q.1, .no, .no, .no, .no, .no, .no, .no, .no, .no, .no, .no, .no, .no, .no, .no, .no, .no, .no, .no, .no, .no, .no, .no, .no, .no, .no], a7_ [], us []⟩) (fun p : Int => 0 ≤ p ∧ p ≤ 120 ∧ ja_ (s.drop (q.1 + 1)) p = ja_ s 0) ?_ (fun p hJ => ?_))
  ·refine .block (.seq (.rgn [] (by simp only [go_sem, seval]; rfl) ?_ ?_))
   ·first | trivial | simp
   refine .seq (.rgn [] (by simp only [go_sem, seval]; rfl) ?_ ?_)
   ·first | trivial | simp
   refine .seq (.rgn [] (by simp only [go_sem, seval]; rfl) ?_ ?_)
   ·simp at h8; simp; omega
   refine .condB (by simp only [go_sem, seval]; rfl) (by simp only [go_sem, seval]) (fun h15 => ?_) (fun h15 => ?_)
   ·refine .rgn [] (by simp only [go_sem, seval]; rfl) ?_ ?_
    ·first | trivial | simp
    refine Exists.intro (0) ⟨?_, ?_⟩
    ·first | (have e := oe_ (show q.1 < s.length by simpa using h8) q.2; rw [if_pos (by simpa using h15)] at e; exact ⟨by decide, by decide, by rw [← e]; exact hI.2.2.2⟩) | (have e := m3_ (show q.1 < s.length by simpa using h8) (w := q.2) (by simpa using h15); rw [bp_ (by omega) (by omega)] at h29; rw [h29] at e; simp only [Bool.or_eq_false_iff, T4_] at h29; exact ⟨by omega, by omega, by rw [← hI.2.2.2, e]; rfl⟩)
    exact Can.weak (Weak.lit (by simp only [go_sem, seval, at_, leV, aq_, ar_, V.inn, us, T9_, Ta_] <;> (rw [bp_ (by omega) (by omega)])) (by simp only [go_sem, seval, at_, leV, aq_, ar_, V.inn, us, T9_, Ta_]) (by simp only [go_sem, seval, at_, leV, aq_, ar_, V.inn, us, T9_, Ta_]))
   ·refine .seq (.rgn [] (by simp only [go_sem, seval]; rfl) ?_ ?_)
    ·simp only [T3_] at h8; exact ⟨⟨⟨⟨by omega, by omega⟩, fun h => ⟨h, by omega, by omega⟩⟩, fun h => by rw [h]; rfl⟩, fun h => by rw [h]; rfl⟩
    refine .condB (by simp only [go_sem, seval]; rfl) (by simp only [go_sem, seval]) (fun h29 => ?_) (fun h29 => ?_)
    ·refine .seq (.rgn [] (by simp only [go_sem, seval]; rfl) ?_ ?_)
     ·first | trivial | simp
     refine .ret ⟨.inr rfl, ?_⟩
     exact Out.plain (by simp only [Tryz.results114]; rfl) (by simp only [az_, bj_, go_sem, seval] <;> (split <;> rfl)) (by simp only [bg_, go_sem, seval] <;> (have e := m3_ (show q.1 < s.length by simpa using h8) (w := q.2) (by simpa using h15); rw [bp_ (by omega) (by omega)] at h29; rw [h29] at e; unfold tOk; rw [← hI.2.2.2, e]; rfl)) (by simp only [go_sem, seval])
    ·refine .skip ?_
     refine Exists.intro (q.2 + 1) ⟨?_, ?_⟩
     ·first | (have e := oe_ (show q.1 < s.length by simpa using h8) q.2; rw [if_pos (by simpa using h15)] at e; exact ⟨by decide, by decide, by rw [← e]; exact hI.2.2.2⟩) | (have e := m3_ (show q.1 < s.length by simpa using h8) (w := q.2) (by simpa using h15); rw [bp_ (by omega) (by omega)] at h29; rw [h29] at e; simp only [Bool.or_eq_false_iff, T4_] at h29; exact ⟨by omega, by omega, by rw [← hI.2.2.2, e]; rfl⟩)
     exact Can.weak (Weak.lit (by simp only [go_sem, seval, at_, leV, aq_, ar_, V.inn, us, T9_, Ta_] <;> (rw [bp_ (by omega) (by omega)])) (by simp only [go_sem, seval, at_, leV, aq_, ar_, V.inn, us, T9_, Ta_]) (by simp only [go_sem, seval, at_, leV, aq_, ar_, V.inn, us, T9_, Ta_]))
  refine .rgn [] (by simp only [go_sem, seval]; rfl) ?_ ?_
  ·first | trivial | simp
  refine Exists.intro ((q.1 + 1, p)) ⟨?_, ?_, ?_⟩
  ·simp at h8; exact ⟨by dsimp only; omega, hJ.1, hJ.2.1, hJ.2.2⟩
  ·simp at h8; dsimp only; omega
  exact Can.weak (Weak.lit (by simp only [go_sem, seval, at_, leV, aq_, ar_, V.inn, us, T9_, Ta_] <;> (rw [bp_ (by omega) (by omega)]; simp)) (by simp only [go_sem, seval, at_, leV, aq_, ar_, V.inn, us, T9_, Ta_]) (by simp only [go_sem, seval, at_, leV, aq_, ar_, V.inn, us, T9_, Ta_]))
 ·refine .exit (.seq (.rgn [] (by simp only [go_sem, seval]; rfl) ?_ ?_))
  ·first | trivial | simp
  refine .ret ⟨.inr rfl, ?_⟩
  exact Out.plain (by simp only [Tryz.results114]; rfl) (by simp only [az_, bj_, go_sem, seval] <;> (split <;> rfl)) (by simp only [bg_, go_sem, seval] <;> (simp only [T4_] at h8; have e := hI.2.2.2; rw [List.drop_of_length_le (by omega)] at e; unfold tOk; rw [← e]; simp only [ja_, Bool.true_and]; rw [show decide ((s.length : Int) ≤ 4000) = decide (s.length ≤ 4000) from decide_eq_decide.2 (by omega)])) (by simp only [go_sem, seval])
end
end Go.Proofs.YtcigkafioinfoaaGreatDoor
