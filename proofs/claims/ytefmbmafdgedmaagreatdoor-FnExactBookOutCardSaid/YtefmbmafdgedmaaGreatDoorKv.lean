/- What is drawn: two lines without types, a line; the two languages are disjoint. Conditions: none. -/
import Derived.Test.YtefmbmafdgedmaaGreatDoorKu
import Derived.Test.YtefmbmafdgedmaaGreatDoorKl
import Derived.Test.YtefmbmafdgedmaaGreatDoorKq
import Derived.Lib.Split
import Derived.Lib.IndexBytes
import Derived.Test.YtefmbmafdgedmaaGreatDoorKf
import Derived.Lib.SmallJoins
import Derived.Lib.SplitLaws
import Derived.Test.YtefmbmafdgedmaaGreatDoorKn
set_option linter.unusedVariables false
set_option linter.unusedSimpArgs false
namespace Go.Proofs.YtefmbmafdgedmaaGreatDoor
section
set_option maxRecDepth 100000
set_option maxHeartbeats 4000000
end
section
def spl : Str → List Str
 | [] => [[]]
 | c :: l => if c = 10 then [] :: spl l else match spl l with
  | [] => [[c]]
  | w :: r => (c :: w) :: r
theorem adw_ : ∀ l : Str, spl l ≠ []
 | [] => by simp [spl]
 | c :: l => by
  unfold spl
  split
  ·simp
  ·split <;> simp
theorem ali_ (l : Str) : spl (10 :: l) = [] :: spl l := by simp [spl]
theorem wu_ {c : UInt8} (h : c ≠ 10) {l : Str} {w : Str} {r : List Str} (hl : spl l = w :: r) : spl (c :: l) = (c :: w) :: r := by
 rw [spl, if_neg h, hl]
theorem qb_ : ∀ {w : Str}, (10 : UInt8) ∉ w → spl w = [w]
 | [], _ => rfl
 | c :: w, h => by
  rw [wu_ (by rintro rfl; simp at h) (qb_ (w := w) fun q => h (by simp [q]))]
theorem t5_ : ∀ {w : Str}, (10 : UInt8) ∉ w → ∀ l, spl (w ++ 10 :: l) = w :: spl l
 | [], _, l => ali_ l
 | c :: w, h, l => by
  rw [List.cons_append, wu_ (by rintro rfl; simp at h) (t5_ (w := w) (fun q => h (by simp [q])) l)]
def jx_ : Str → Int → Bool
 | [], _ => true
 | c :: l, w => if c = 10 then jx_ l 0 else decide (32 ≤ c.toNat) && decide (c.toNat ≤ 126) && decide (w + 1 ≤ 120) && jx_ l (w + 1)
def tOk (s : Str) : Bool := jx_ s 0 && decide (s.length ≤ 4000)
def prt (c : UInt8) : Bool := decide (32 ≤ c.toNat) && decide (c.toNat ≤ 126)
def lnOk (l : Str) : Prop := l.all prt = true ∧ l.length ≤ 120
theorem acw_ {c : UInt8} (h : dj_ c = true) : prt c = true := by
 simp only [dj_, prt, T5_, T3_] at *; omega
theorem ack_ {c : UInt8} (h : de_ c = true) : prt c = true := by
 simp only [de_, prt, T5_, T3_] at *; omega
theorem afj_ {s : Str} (h : fq_ s = true) : s.all prt = true := by
 simp only [fq_, T5_, beq_iff_eq] at h
 obtain ⟨h1, h2⟩ := h
 match s, h1, h2 with
 | [c], _, h2 =>
  have : c ∈ marks := by simpa using h2
  simp only [marks, List.mem_cons, List.not_mem_nil, or_false] at this
  rcases this with rfl | rfl | rfl | rfl | rfl | rfl | rfl | rfl <;> decide
theorem sh_ {w : Str} (h : et_ w) : w.all prt = true := by
 unfold et_ dt_ at h
 split at h
 ·rename_i hw
  simp only [fe_, T5_] at hw
  exact List.all_eq_true.2 fun c hc => acw_ (List.all_eq_true.1 hw.1.1 c hc)
 ·split at h
  ·rename_i hw
   obtain ⟨n, _, rfl⟩ := ed_.1 hw
   exact List.all_eq_true.2 fun c hc => ack_ ((ki_ c).2 (d5_ n c hc))
  ·split at h
   ·rename_i hw; exact afj_ hw
   ·exact absurd rfl h
theorem vk_ : ∀ {l : List Str}, (∀ w ∈ l, et_ w) → (ch_ l).all prt = true
 | [], _ => rfl
 | [s], h => by rw [gb_]; exact sh_ (h s (by simp))
 | s :: x :: l, h => by
  rw [fh_, List.all_append, List.all_cons, sh_ (h s (by simp)), vk_ (l := x :: l) fun w hw => h w (by simp at hw ⊢; exact .inr hw)]
  rfl
theorem yp_ {b : Bl} (h : bok b = true) : lnOk (ahp_ b) := ⟨vk_ (ada_ h), (vv_ h).1⟩
end
section
open Go.RowKit
set_option maxRecDepth 100000
end
section
set_option maxRecDepth 100000
set_option maxHeartbeats 4000000
theorem pc_ {s : Str} {k : Nat} (h : k < s.length) (w : Int) : jx_ (s.drop k) w = if ((s.getD k 0).toNat : Int) = 10 then jx_ (s.drop (k + 1)) 0 else decide (32 ≤ ((s.getD k 0).toNat : Int)) && decide (((s.getD k 0).toNat : Int) ≤ 126) && decide (w + 1 ≤ 120) && jx_ (s.drop (k + 1)) (w + 1) := by
 have e : s.drop k = s.getD k 0 :: s.drop (k + 1) := by
  rw [List.drop_eq_getElem_cons h, T8_, T6_ h]; rfl
 rw [e, jx_]
 by_cases hc : s.getD k 0 = 10
 ·rw [if_pos hc, if_pos (by rw [hc]; rfl)]
 ·rw [if_neg hc, if_neg (fun q => hc (by apply UInt8.toNat_inj.1; show _ = 10; omega))]
  congr 2
  congr 1
  ·exact decide_eq_decide.2 (by omega)
  ·exact decide_eq_decide.2 (by omega)
theorem ob_ {s : Str} {k : Nat} (h : k < s.length) {w : Int} (h15 : ¬ ((s.getD k 0).toNat : Int) = 10) : jx_ (s.drop k) w = (!(decide (((s.getD k 0).toNat : Int) < 32) || decide (((s.getD k 0).toNat : Int) > 126) || decide (w + 1 > 120)) && jx_ (s.drop (k + 1)) (w + 1)) := by
 rw [pc_ h, if_neg h15]
 generalize ((s.getD k 0).toNat : Int) = c
 rw [show decide (32 ≤ c) = !decide (c < 32) by rw [← decide_not]; exact decide_eq_decide.2 (by omega), show decide (c ≤ 126) = !decide (c > 126) by rw [← decide_not]; exact decide_eq_decide.2 (by omega), show decide (w + 1 ≤ 120) = !decide (w + 1 > 120) by rw [← decide_not]; exact decide_eq_decide.2 (by omega)]
 cases decide (c < 32) <;> cases decide (c > 126) <;> cases decide (w + 1 > 120) <;> rfl
theorem ts_ {s : Str} (h : tOk s = true) : s.length ≤ 4000 := by simp only [tOk, T5_, T3_] at h; exact h.2
theorem abk_ (s : Str) (hs : s.length ≤ 281474976710656) : ACall En 45 [.s s] [] [.b (tOk s)] [] := by
 refine ao_ (fn := Tryz.f45) [] Tryz.func45 rfl rfl (by simp) fun C => ?_
 rw [bb_]
 simp only [Tryz.ntmps45, T7_, List.length_nil, Nat.reduceAdd, Nat.reduceSub, List.replicate_succ, List.replicate_zero, List.cons_append, List.nil_append, bu_]
 refine .seq (.rgn [] (by simp only [go_sem, seval]; rfl) ?_ ?_)
 ·first | trivial | simp
 refine .seq (.rgn [] (by simp only [go_sem, seval]; rfl) ?_ ?_)
 ·first | trivial | simp
 refine .seq (.seq (.rgn [] (by simp only [go_sem, seval]; rfl) ?_ ?_))
 ·first | trivial | simp
 refine .block (.loopK (fun q : Nat × Int => ⟨[.s s, .no, .no, .i .i64 q.2, .no, .no, .i .i64 s.length, .i .i64 q.1, .no, .no, .no, .no, .no, .no, .no, .no, .no, .no, .no, .no, .no, .no, .no, .no, .no, .no, .no, .no, .no, .no, .no, .no, .no, .no], bk_ [], us []⟩) (fun q : Nat × Int => q.1 ≤ s.length ∧ 0 ≤ q.2 ∧ q.2 ≤ 120 ∧ jx_ (s.drop q.1) q.2 = jx_ s 0) (fun q : Nat × Int => s.length - q.1) ((0, 0)) ?_ ?_ (fun q hI => ?_))
 ·exact ⟨by simp, by decide, by decide, rfl⟩
 ·exact Can.weak (Weak.lit (by simp only [go_sem, seval, ay_, leV, aw_, ax_, V.inn, us, T9_, Ta_] <;> (simp)) (by simp only [go_sem, seval, ay_, leV, aw_, ax_, V.inn, us, T9_, Ta_]) (by simp only [go_sem, seval, ay_, leV, aw_, ax_, V.inn, us, T9_, Ta_]))
 refine .seq (.rgn [] (by simp only [go_sem, seval]; rfl) ?_ ?_)
 ·first | trivial | simp
 refine .seq (.condB (by simp only [go_sem, seval]; rfl) (by simp only [go_sem, seval]) (fun h8 => ?_) (fun h8 => ?_))
 ·refine .skip (.seqJ (fun p : Int => ⟨[.s s, .no, .no, .i .i64 p, .no, .no, .i .i64 s.length, .i .i64 q.1, .no, .no, .no, .no, .no, .no, .no, .no, .no, .no, .no, .no, .no, .no, .no, .no, .no, .no, .no, .no, .no, .no, .no, .no, .no, .no], bk_ [], us []⟩) (fun p : Int => 0 ≤ p ∧ p ≤ 120 ∧ jx_ (s.drop (q.1 + 1)) p = jx_ s 0) ?_ (fun p hJ => ?_))
  ·refine .block (.seq (.rgn [] (by simp only [go_sem, seval]; rfl) ?_ ?_))
   ·first | trivial | simp
   refine .seq (.rgn [] (by simp only [go_sem, seval]; rfl) ?_ ?_)
   ·first | trivial | simp
   refine .seq (.rgn [] (by simp only [go_sem, seval]; rfl) ?_ ?_)
   ·simp at h8; simp; omega
   refine .condB (by simp only [go_sem, seval]; rfl) (by simp only [go_sem, seval]) (fun h15 => ?_) (fun h15 => ?_)
   ·refine .rgn [] (by simp only [go_sem, seval]; rfl) ?_ ?_
    ·first | trivial | simp
    refine Exists.intro (0) ⟨?_, ?_⟩
    ·first | (have e := pc_ (show q.1 < s.length by simpa using h8) q.2; rw [if_pos (by simpa using h15)] at e; exact ⟨by decide, by decide, by rw [← e]; exact hI.2.2.2⟩) | (have e := ob_ (show q.1 < s.length by simpa using h8) (w := q.2) (by simpa using h15); rw [bx_ (by omega) (by omega)] at h29; rw [h29] at e; simp only [Bool.or_eq_false_iff, T4_] at h29; exact ⟨by omega, by omega, by rw [← hI.2.2.2, e]; rfl⟩)
    exact Can.weak (Weak.lit (by simp only [go_sem, seval, ay_, leV, aw_, ax_, V.inn, us, T9_, Ta_] <;> (rw [bx_ (by omega) (by omega)])) (by simp only [go_sem, seval, ay_, leV, aw_, ax_, V.inn, us, T9_, Ta_]) (by simp only [go_sem, seval, ay_, leV, aw_, ax_, V.inn, us, T9_, Ta_]))
   ·refine .seq (.rgn [] (by simp only [go_sem, seval]; rfl) ?_ ?_)
    ·simp only [T3_] at h8; exact ⟨⟨⟨⟨by omega, by omega⟩, fun h => ⟨h, by omega, by omega⟩⟩, fun h => by rw [h]; rfl⟩, fun h => by rw [h]; rfl⟩
    refine .condB (by simp only [go_sem, seval]; rfl) (by simp only [go_sem, seval]) (fun h29 => ?_) (fun h29 => ?_)
    ·refine .seq (.rgn [] (by simp only [go_sem, seval]; rfl) ?_ ?_)
     ·first | trivial | simp
     refine .ret ⟨.inr rfl, ?_⟩
     exact Out.plain (by simp only [Tryz.results45]; rfl) (by simp only [bd_, bo_, go_sem, seval] <;> (split <;> rfl)) (by simp only [bn_, go_sem, seval] <;> (have e := ob_ (show q.1 < s.length by simpa using h8) (w := q.2) (by simpa using h15); rw [bx_ (by omega) (by omega)] at h29; rw [h29] at e; unfold tOk; rw [← hI.2.2.2, e]; rfl)) (by simp only [go_sem, seval])
    ·refine .skip ?_
     refine Exists.intro (q.2 + 1) ⟨?_, ?_⟩
     ·first | (have e := pc_ (show q.1 < s.length by simpa using h8) q.2; rw [if_pos (by simpa using h15)] at e; exact ⟨by decide, by decide, by rw [← e]; exact hI.2.2.2⟩) | (have e := ob_ (show q.1 < s.length by simpa using h8) (w := q.2) (by simpa using h15); rw [bx_ (by omega) (by omega)] at h29; rw [h29] at e; simp only [Bool.or_eq_false_iff, T4_] at h29; exact ⟨by omega, by omega, by rw [← hI.2.2.2, e]; rfl⟩)
     exact Can.weak (Weak.lit (by simp only [go_sem, seval, ay_, leV, aw_, ax_, V.inn, us, T9_, Ta_] <;> (rw [bx_ (by omega) (by omega)])) (by simp only [go_sem, seval, ay_, leV, aw_, ax_, V.inn, us, T9_, Ta_]) (by simp only [go_sem, seval, ay_, leV, aw_, ax_, V.inn, us, T9_, Ta_]))
  refine .rgn [] (by simp only [go_sem, seval]; rfl) ?_ ?_
  ·first | trivial | simp
  refine Exists.intro ((q.1 + 1, p)) ⟨?_, ?_, ?_⟩
  ·simp at h8; exact ⟨by dsimp only; omega, hJ.1, hJ.2.1, hJ.2.2⟩
  ·simp at h8; dsimp only; omega
  exact Can.weak (Weak.lit (by simp only [go_sem, seval, ay_, leV, aw_, ax_, V.inn, us, T9_, Ta_] <;> (rw [bx_ (by omega) (by omega)]; simp)) (by simp only [go_sem, seval, ay_, leV, aw_, ax_, V.inn, us, T9_, Ta_]) (by simp only [go_sem, seval, ay_, leV, aw_, ax_, V.inn, us, T9_, Ta_]))
 ·refine .exit (.seq (.rgn [] (by simp only [go_sem, seval]; rfl) ?_ ?_))
  ·first | trivial | simp
  refine .ret ⟨.inr rfl, ?_⟩
  exact Out.plain (by simp only [Tryz.results45]; rfl) (by simp only [bd_, bo_, go_sem, seval] <;> (split <;> rfl)) (by simp only [bn_, go_sem, seval] <;> (simp only [T4_] at h8; have e := hI.2.2.2; rw [List.drop_of_length_le (by omega)] at e; unfold tOk; rw [← e]; simp only [jx_, Bool.true_and]; rw [show decide ((s.length : Int) ≤ 4000) = decide (s.length ≤ 4000) from decide_eq_decide.2 (by omega)])) (by simp only [go_sem, seval])
end
end Go.Proofs.YtefmbmafdgedmaaGreatDoor
