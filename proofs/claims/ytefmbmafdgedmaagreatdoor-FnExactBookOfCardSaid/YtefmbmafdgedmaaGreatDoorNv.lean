/- What is drawn: two lines without types, a line; the two languages are disjoint. Conditions: none. -/
import Derived.Test.YtefmbmafdgedmaaGreatDoorNu
import Derived.Test.YtefmbmafdgedmaaGreatDoorNl
import Derived.Test.YtefmbmafdgedmaaGreatDoorNq
import Derived.Lib.Split
import Derived.Lib.IndexBytes
import Derived.Test.YtefmbmafdgedmaaGreatDoorNf
import Derived.Lib.SmallJoins
import Derived.Lib.SplitLaws
import Derived.Test.YtefmbmafdgedmaaGreatDoorNn
set_option linter.unusedVariables false
set_option linter.unusedSimpArgs false
namespace Go.Proofs.YtefmbmafdgedmaaGreatDoor
section
set_option maxRecDepth 100000
set_option maxHeartbeats 4000000
end
section
def spl : Str → List Str
 | [] => [[]]
 | c :: l => if c = 10 then [] :: spl l else match spl l with
  | [] => [[c]]
  | w :: r => (c :: w) :: r
theorem ah2_ : ∀ l : Str, spl l ≠ []
 | [] => by simp [spl]
 | c :: l => by
  unfold spl
  split
  ·simp
  ·split <;> simp
theorem ahh_ (l : Str) : spl (10 :: l) = [] :: spl l := by simp [spl]
theorem sm_ {c : UInt8} (h : c ≠ 10) {l : Str} {w : Str} {r : List Str} (hl : spl l = w :: r) : spl (c :: l) = (c :: w) :: r := by
 rw [spl, if_neg h, hl]
theorem kg_ : ∀ {w : Str}, (10 : UInt8) ∉ w → spl w = [w]
 | [], _ => rfl
 | c :: w, h => by
  rw [sm_ (by rintro rfl; simp at h) (kg_ (w := w) fun q => h (by simp [q]))]
theorem nj_ : ∀ {w : Str}, (10 : UInt8) ∉ w → ∀ l, spl (w ++ 10 :: l) = w :: spl l
 | [], _, l => ahh_ l
 | c :: w, h, l => by
  rw [List.cons_append, sm_ (by rintro rfl; simp at h) (nj_ (w := w) (fun q => h (by simp [q])) l)]
theorem nm_ : ∀ l : Str, (spl l).length ≤ l.length + 1
 | [] => by simp [spl]
 | c :: l => by
  have := nm_ l
  unfold spl
  split
  ·simp; omega
  ·split
   ·simp
   ·rename_i he; rw [he] at this; simp at this ⊢; omega
theorem mu_ : ∀ l : Str, ∀ w ∈ spl l, w.length ≤ l.length
 | [], w, h => by simp [spl] at h; subst h; simp
 | c :: l, w, h => by
  have ih := mu_ l
  unfold spl at h
  split at h
  ·simp only [List.mem_cons] at h
   rcases h with rfl | h
   ·simp
   ·have := ih w h; simp; omega
  ·split at h
   ·simp only [List.mem_cons, List.not_mem_nil, or_false] at h
    subst h; simp
   ·rename_i u r he
    simp only [List.mem_cons] at h
    rcases h with rfl | h
    ·have := ih u (by rw [he]; simp); simp; omega
    ·have := ih w (by rw [he]; simp [h]); simp; omega
theorem q0_ : ∀ {s : Str}, Lib.indexByte s 10 = -1 → (10 : UInt8) ∉ s
 | [], _ => by simp
 | b :: l, h => by
  have hg := nu_ l 10
  unfold Lib.indexByte at h
  split at h
  ·exact absurd h (by decide)
  ·rename_i hb
   split at h
   ·rename_i h2
    have := q0_ (s := l) (by simpa using h2)
    simp only [List.mem_cons, not_or]
    exact ⟨fun e => hb (by simp [e]), this⟩
   ·omega
theorem uf_ : ∀ {s : Str} {i : Nat}, Lib.indexByte s 10 = i → (10 : UInt8) ∉ s.take i ∧ s = s.take i ++ 10 :: s.drop (i + 1)
 | [], i, h => by simp [Lib.indexByte] at h
 | b :: l, i, h => by
  have hg := nu_ l 10
  unfold Lib.indexByte at h
  split at h
  ·rename_i hb
   obtain rfl : i = 0 := by omega
   have : b = 10 := by simpa using hb
   subst this; simp
  ·rename_i hb
   split at h
   ·omega
   ·rename_i h2
    have h2' : Lib.indexByte l 10 ≠ -1 := by simpa using h2
    obtain ⟨j, hj⟩ : ∃ j : Nat, Lib.indexByte l 10 = j := ⟨(Lib.indexByte l 10).toNat, by omega⟩
    obtain rfl : i = j + 1 := by omega
    obtain ⟨q1, q2⟩ := uf_ (s := l) hj
    refine ⟨?_, ?_⟩
    ·simp only [List.take_succ_cons, List.mem_cons, not_or]
     exact ⟨fun e => hb (by simp [e]), q1⟩
    ·simp only [List.take_succ_cons, List.drop_succ_cons, List.cons_append]
     rw [← q2]
theorem qv_ : ∀ (n : Nat) (s : Str), s.length ≤ n → Lib.splitK [10] 0 (Lib.count s [10]) s = spl s
 | 0, s, h => by
  obtain rfl : s = [] := List.eq_nil_of_length_eq_zero (by omega)
  rfl
 | n + 1, s, h => by
  have hg := Lib.index_ge s [10]
  have ho : Lib.index s [10] = Lib.indexByte s 10 := Lib.index_one s 10
  by_cases hm : Lib.index s [10] = -1
  ·rw [Lib.count_miss hm, kg_ (q0_ (ho ▸ hm))]; rfl
  ·obtain ⟨i, hi⟩ : ∃ i : Nat, Lib.index s [10] = i := ⟨(Lib.index s [10]).toNat, by omega⟩
   obtain ⟨q1, q2⟩ := uf_ (ho ▸ hi)
   rw [Lib.count_hit (by simp) hi, Nat.add_comm 1, Lib.splitK, if_neg (by simpa using hm), hi]
   simp only [Int.toNat_natCast, Nat.add_zero, List.length_cons, List.length_nil, Nat.zero_add]
   have hl : (s.drop (i + 1)).length ≤ n := by
    have := congrArg List.length q2
    rw [List.length_append, List.length_cons] at this
    omega
   rw [qv_ n (s.drop (i + 1)) hl]
   conv => rhs; rw [q2]
   rw [nj_ q1]
def i5_ : Str → Int → Bool
 | [], _ => true
 | c :: l, w => if c = 10 then i5_ l 0 else decide (32 ≤ c.toNat) && decide (c.toNat ≤ 126) && decide (w + 1 ≤ 120) && i5_ l (w + 1)
def tOk (s : Str) : Bool := i5_ s 0 && decide (s.length ≤ 4000)
def prt (c : UInt8) : Bool := decide (32 ≤ c.toNat) && decide (c.toNat ≤ 126)
def lnOk (l : Str) : Prop := l.all prt = true ∧ l.length ≤ 120
def dx_ (s : Str) : List Str := if tOk s then spl s else []
theorem j1_ (s : Str) : (dx_ s).length ≤ 4001 := by
 unfold dx_
 split
 ·rename_i h
  have := nm_ s
  simp only [tOk, Bool.and_eq_true, decide_eq_true_eq] at h
  omega
 ·simp
theorem h9_ (s : Str) : ∀ w ∈ dx_ s, w.length ≤ 4000 := by
 unfold dx_
 split
 ·rename_i h
  intro w hw
  have := mu_ s w hw
  simp only [tOk, Bool.and_eq_true, decide_eq_true_eq] at h
  omega
 ·simp
theorem y2_ {c : UInt8} (h : cx_ c = true) : prt c = true := by
 simp only [cx_, prt, Bool.and_eq_true, decide_eq_true_eq] at *; omega
theorem x4_ {c : UInt8} (h : cs_ c = true) : prt c = true := by
 simp only [cs_, prt, Bool.and_eq_true, decide_eq_true_eq] at *; omega
theorem acq_ {s : Str} (h : e0_ s = true) : s.all prt = true := by
 simp only [e0_, Bool.and_eq_true, beq_iff_eq] at h
 obtain ⟨h1, h2⟩ := h
 match s, h1, h2 with
 | [c], _, h2 =>
  have : c ∈ marks := by simpa using h2
  simp only [marks, List.mem_cons, List.not_mem_nil, or_false] at this
  rcases this with rfl | rfl | rfl | rfl | rfl | rfl | rfl | rfl <;> decide
theorem pu_ {w : Str} (h : d5_ w) : w.all prt = true := by
 unfold d5_ da_ at h
 split at h
 ·rename_i hw
  simp only [eo_, Bool.and_eq_true] at hw
  exact List.all_eq_true.2 fun c hc => y2_ (List.all_eq_true.1 hw.1.1 c hc)
 ·split at h
  ·rename_i hw
   obtain ⟨n, _, rfl⟩ := du_.1 hw
   exact List.all_eq_true.2 fun c hc => x4_ ((jb_ c).2 (dk_ n c hc))
  ·split at h
   ·rename_i hw; exact acq_ hw
   ·exact absurd rfl h
theorem t8_ : ∀ {l : List Str}, (∀ w ∈ l, d5_ w) → (bv_ l).all prt = true
 | [], _ => rfl
 | [s], h => by rw [fe_]; exact pu_ (h s (by simp))
 | s :: x :: l, h => by
  rw [er_, List.all_append, List.all_cons, pu_ (h s (by simp)), t8_ (l := x :: l) fun w hw => h w (by simp at hw ⊢; exact .inr hw)]
  rfl
theorem vi_ {b : Bl} (h : bok b = true) : lnOk (z6_ b) := ⟨t8_ (aa6_ h), (tt_ h).1⟩
end
section
open Go.RowKit
set_option maxRecDepth 100000
theorem xz_ {φ : Phi} {S : Nat → Prop} {w : World} : ∀ l : List Str, VRr φ S w 1 (bm_ l) (l.map fun s => Value.string ⟨s.toArray⟩)
 | [] => by simp only [bm_, List.map_nil]; exact VRr.nil
 | s :: l => by
  simp only [bm_, List.map_cons]
  exact VRr.cons (ys := [.string ⟨s.toArray⟩]) rfl (.cons (by simp only [VR]) .nil) (fun u hu => by simp at hu; subst hu; rfl) (xz_ l)
theorem afi_ (s : Str) (hs : s.length ≤ 1000000) : ACall En 47 [.s s, .s [10]] [] [.sl false (bm_ (spl s))] [] := by
 refine gp_ (fn := Tryz.f47) Tryz.func47 rfl rfl fun S w xs hx _ ⟨B, hB, _⟩ => ?_
 simp only [VRs, VR] at hx
 obtain ⟨x, r, e1, rfl, y, q, e2, rfl, rfl⟩ := hx
 subst e2
 obtain rfl : xs = #[.string ⟨s.toArray⟩, .string ⟨[10].toArray⟩] := by apply Array.ext'; simpa using e1
 obtain ⟨m, hm⟩ := hB.maxl
 have hd : (⟨s.toArray⟩ : ByteArray).data.toList = s := by simp
 have hk : (Lib.splitB ⟨[10].toArray⟩ 0 (Lib.countB ⟨s.toArray⟩ ⟨[10].toArray⟩) ⟨s.toArray⟩).map (·.data.toList) = spl s := by
  rw [Lib.splitB_data]
  exact qv_ s.length s (Nat.le_refl _)
 have hv : (Lib.splitB ⟨[10].toArray⟩ 0 (Lib.countB ⟨s.toArray⟩ ⟨[10].toArray⟩) ⟨s.toArray⟩).map Value.string = (spl s).map fun s => Value.string ⟨s.toArray⟩ := by
  rw [← hk, List.map_map]
  exact List.map_congr_left fun b _ => by cases b; simp
 have hl : (spl s).length = Lib.countB ⟨s.toArray⟩ ⟨[10].toArray⟩ + 1 := by
  rw [← hk, List.length_map]
  exact Lib.splitB_all _ (by simp [ByteArray.size]) 0 _ _ rfl
 refine (Tryz.strings_Split ⟨s.toArray⟩ ⟨[10].toArray⟩ m w (by simp [ByteArray.size]; omega) hm (by simp [ByteArray.size])).mono ?_
 rintro e w' ⟨rfl, rfl⟩
 rw [hv, ← hl]
 refine ⟨[_], rfl, Joins.below_alloc1 _ _, .cons ?_ .nil⟩
 have := nm_ s
 simp only [VR, ab_]
 refine ⟨some ⟨w.heap.size, 0, none⟩, (spl s).length, 1, (spl s).map fun s => .string ⟨s.toArray⟩, rfl, Nat.le_refl _, by unfold maxLen; omega, fun e => (by simp at e), fun _ => ⟨w.heap.size, 0, rfl, .inr (Nat.le_refl _), by show _ < (w.heap.push _).size; rw [Array.size_push]; exact Nat.lt_succ_self _, fun j u hu => ?_⟩, xz_ (spl s)⟩
 rw [Joins.cell_alloc_mark_at w _ _ _ _ _ rfl]
 simpa using hu
end
section
set_option maxRecDepth 100000
set_option maxHeartbeats 4000000
theorem m9_ {s : Str} {k : Nat} (h : k < s.length) (w : Int) : i5_ (s.drop k) w = if ((s.getD k 0).toNat : Int) = 10 then i5_ (s.drop (k + 1)) 0 else decide (32 ≤ ((s.getD k 0).toNat : Int)) && decide (((s.getD k 0).toNat : Int) ≤ 126) && decide (w + 1 ≤ 120) && i5_ (s.drop (k + 1)) (w + 1) := by
 have e : s.drop k = s.getD k 0 :: s.drop (k + 1) := by
  rw [List.drop_eq_getElem_cons h, List.getD_eq_getElem?_getD, List.getElem?_eq_getElem h]; rfl
 rw [e, i5_]
 by_cases hc : s.getD k 0 = 10
 ·rw [if_pos hc, if_pos (by rw [hc]; rfl)]
 ·rw [if_neg hc, if_neg (fun q => hc (by apply UInt8.toNat_inj.1; show _ = 10; omega))]
  congr 2
  congr 1
  ·exact decide_eq_decide.2 (by omega)
  ·exact decide_eq_decide.2 (by omega)
theorem me_ {s : Str} {k : Nat} (h : k < s.length) {w : Int} (h15 : ¬ ((s.getD k 0).toNat : Int) = 10) : i5_ (s.drop k) w = (!(decide (((s.getD k 0).toNat : Int) < 32) || decide (((s.getD k 0).toNat : Int) > 126) || decide (w + 1 > 120)) && i5_ (s.drop (k + 1)) (w + 1)) := by
 rw [m9_ h, if_neg h15]
 generalize ((s.getD k 0).toNat : Int) = c
 rw [show decide (32 ≤ c) = !decide (c < 32) by rw [← decide_not]; exact decide_eq_decide.2 (by omega), show decide (c ≤ 126) = !decide (c > 126) by rw [← decide_not]; exact decide_eq_decide.2 (by omega), show decide (w + 1 ≤ 120) = !decide (w + 1 > 120) by rw [← decide_not]; exact decide_eq_decide.2 (by omega)]
 cases decide (c < 32) <;> cases decide (c > 126) <;> cases decide (w + 1 > 120) <;> rfl
theorem nd_ {s : Str} (h : tOk s = true) : s.length ≤ 4000 := by simp only [tOk, Bool.and_eq_true, decide_eq_true_eq] at h; exact h.2
theorem ps_ (s : Str) (hs : s.length ≤ 281474976710656) : ACall En 45 [.s s] [] [.b (tOk s)] [] := by
 refine ah_ (fn := Tryz.f45) [] Tryz.func45 rfl rfl (by simp) fun C => ?_
 rw [ar_]
 simp only [Tryz.ntmps45, List.length_cons, List.length_nil, Nat.reduceAdd, Nat.reduceSub, List.replicate_succ, List.replicate_zero, List.cons_append, List.nil_append, bd_]
 refine .seq (.rgn [] (by simp only [go_sem, seval]; rfl) ?_ ?_)
 ·first | trivial | simp
 refine .seq (.rgn [] (by simp only [go_sem, seval]; rfl) ?_ ?_)
 ·first | trivial | simp
 refine .seq (.seq (.rgn [] (by simp only [go_sem, seval]; rfl) ?_ ?_))
 ·first | trivial | simp
 refine .block (.loopK (fun q : Nat × Int => ⟨[.s s, .no, .no, .i .i64 q.2, .no, .no, .i .i64 s.length, .i .i64 q.1, .no, .no, .no, .no, .no, .no, .no, .no, .no, .no, .no, .no, .no, .no, .no, .no, .no, .no, .no, .no, .no, .no, .no, .no, .no, .no], aw_ [], us []⟩) (fun q : Nat × Int => q.1 ≤ s.length ∧ 0 ≤ q.2 ∧ q.2 ≤ 120 ∧ i5_ (s.drop q.1) q.2 = i5_ s 0) (fun q : Nat × Int => s.length - q.1) ((0, 0)) ?_ ?_ (fun q hI => ?_))
 ·exact ⟨by simp, by decide, by decide, rfl⟩
 ·exact Can.weak (Weak.lit (by simp only [go_sem, seval, an_, leV, al_, am_, V.inn, us, true_or, or_true] <;> (simp)) (by simp only [go_sem, seval, an_, leV, al_, am_, V.inn, us, true_or, or_true]) (by simp only [go_sem, seval, an_, leV, al_, am_, V.inn, us, true_or, or_true]))
 refine .seq (.rgn [] (by simp only [go_sem, seval]; rfl) ?_ ?_)
 ·first | trivial | simp
 refine .seq (.condB (by simp only [go_sem, seval]; rfl) (by simp only [go_sem, seval]) (fun h8 => ?_) (fun h8 => ?_))
 ·refine .skip (.seqJ (fun p : Int => ⟨[.s s, .no, .no, .i .i64 p, .no, .no, .i .i64 s.length, .i .i64 q.1, .no, .no, .no, .no, .no, .no, .no, .no, .no, .no, .no, .no, .no, .no, .no, .no, .no, .no, .no, .no, .no, .no, .no, .no, .no, .no], aw_ [], us []⟩) (fun p : Int => 0 ≤ p ∧ p ≤ 120 ∧ i5_ (s.drop (q.1 + 1)) p = i5_ s 0) ?_ (fun p hJ => ?_))
  ·refine .block (.seq (.rgn [] (by simp only [go_sem, seval]; rfl) ?_ ?_))
   ·first | trivial | simp
   refine .seq (.rgn [] (by simp only [go_sem, seval]; rfl) ?_ ?_)
   ·first | trivial | simp
   refine .seq (.rgn [] (by simp only [go_sem, seval]; rfl) ?_ ?_)
   ·simp at h8; simp; omega
   refine .condB (by simp only [go_sem, seval]; rfl) (by simp only [go_sem, seval]) (fun h15 => ?_) (fun h15 => ?_)
   ·refine .rgn [] (by simp only [go_sem, seval]; rfl) ?_ ?_
    ·first | trivial | simp
    refine Exists.intro (0) ⟨?_, ?_⟩
    ·first | (have e := m9_ (show q.1 < s.length by simpa using h8) q.2; rw [if_pos (by simpa using h15)] at e; exact ⟨by decide, by decide, by rw [← e]; exact hI.2.2.2⟩) | (have e := me_ (show q.1 < s.length by simpa using h8) (w := q.2) (by simpa using h15); rw [bc_ (by omega) (by omega)] at h29; rw [h29] at e; simp only [Bool.or_eq_false_iff, decide_eq_false_iff_not] at h29; exact ⟨by omega, by omega, by rw [← hI.2.2.2, e]; rfl⟩)
    exact Can.weak (Weak.lit (by simp only [go_sem, seval, an_, leV, al_, am_, V.inn, us, true_or, or_true] <;> (rw [bc_ (by omega) (by omega)])) (by simp only [go_sem, seval, an_, leV, al_, am_, V.inn, us, true_or, or_true]) (by simp only [go_sem, seval, an_, leV, al_, am_, V.inn, us, true_or, or_true]))
   ·refine .seq (.rgn [] (by simp only [go_sem, seval]; rfl) ?_ ?_)
    ·simp only [decide_eq_true_eq] at h8; exact ⟨⟨⟨⟨by omega, by omega⟩, fun h => ⟨h, by omega, by omega⟩⟩, fun h => by rw [h]; rfl⟩, fun h => by rw [h]; rfl⟩
    refine .condB (by simp only [go_sem, seval]; rfl) (by simp only [go_sem, seval]) (fun h29 => ?_) (fun h29 => ?_)
    ·refine .seq (.rgn [] (by simp only [go_sem, seval]; rfl) ?_ ?_)
     ·first | trivial | simp
     refine .ret ⟨.inr rfl, ?_⟩
     exact Out.plain (by simp only [Tryz.results45]; rfl) (by simp only [aq_, a8_, go_sem, seval] <;> (split <;> rfl)) (by simp only [a7_, go_sem, seval] <;> (have e := me_ (show q.1 < s.length by simpa using h8) (w := q.2) (by simpa using h15); rw [bc_ (by omega) (by omega)] at h29; rw [h29] at e; unfold tOk; rw [← hI.2.2.2, e]; rfl)) (by simp only [go_sem, seval])
    ·refine .skip ?_
     refine Exists.intro (q.2 + 1) ⟨?_, ?_⟩
     ·first | (have e := m9_ (show q.1 < s.length by simpa using h8) q.2; rw [if_pos (by simpa using h15)] at e; exact ⟨by decide, by decide, by rw [← e]; exact hI.2.2.2⟩) | (have e := me_ (show q.1 < s.length by simpa using h8) (w := q.2) (by simpa using h15); rw [bc_ (by omega) (by omega)] at h29; rw [h29] at e; simp only [Bool.or_eq_false_iff, decide_eq_false_iff_not] at h29; exact ⟨by omega, by omega, by rw [← hI.2.2.2, e]; rfl⟩)
     exact Can.weak (Weak.lit (by simp only [go_sem, seval, an_, leV, al_, am_, V.inn, us, true_or, or_true] <;> (rw [bc_ (by omega) (by omega)])) (by simp only [go_sem, seval, an_, leV, al_, am_, V.inn, us, true_or, or_true]) (by simp only [go_sem, seval, an_, leV, al_, am_, V.inn, us, true_or, or_true]))
  refine .rgn [] (by simp only [go_sem, seval]; rfl) ?_ ?_
  ·first | trivial | simp
  refine Exists.intro ((q.1 + 1, p)) ⟨?_, ?_, ?_⟩
  ·simp at h8; exact ⟨by dsimp only; omega, hJ.1, hJ.2.1, hJ.2.2⟩
  ·simp at h8; dsimp only; omega
  exact Can.weak (Weak.lit (by simp only [go_sem, seval, an_, leV, al_, am_, V.inn, us, true_or, or_true] <;> (rw [bc_ (by omega) (by omega)]; simp)) (by simp only [go_sem, seval, an_, leV, al_, am_, V.inn, us, true_or, or_true]) (by simp only [go_sem, seval, an_, leV, al_, am_, V.inn, us, true_or, or_true]))
 ·refine .exit (.seq (.rgn [] (by simp only [go_sem, seval]; rfl) ?_ ?_))
  ·first | trivial | simp
  refine .ret ⟨.inr rfl, ?_⟩
  exact Out.plain (by simp only [Tryz.results45]; rfl) (by simp only [aq_, a8_, go_sem, seval] <;> (split <;> rfl)) (by simp only [a7_, go_sem, seval] <;> (simp only [decide_eq_false_iff_not] at h8; have e := hI.2.2.2; rw [List.drop_of_length_le (by omega)] at e; unfold tOk; rw [← e]; simp only [i5_, Bool.true_and]; rw [show decide ((s.length : Int) ≤ 4000) = decide (s.length ≤ 4000) from decide_eq_decide.2 (by omega)])) (by simp only [go_sem, seval])
theorem vu_ (l : List Str) (hl : l.length < 1099511627776) : ACall En 46 [.sl false (bm_ l)] [] [.sl false (bm_ l)] [] := by
 refine ah_ (fn := Tryz.f46) [] Tryz.func46 rfl rfl (by simp) fun C => ?_
 rw [ar_]
 simp only [Tryz.ntmps46, List.length_cons, List.length_nil, Nat.reduceAdd, Nat.reduceSub, List.replicate_succ, List.replicate_zero, List.cons_append, List.nil_append, bd_]
 refine .seq (.rgn [] (by simp only [go_sem, seval, aa_, ab_]; rfl) ?_ ?_)
 ·first | trivial | simp
 refine .seq (.rgn [] (by simp only [go_sem, seval, aa_, ab_]; rfl) ?_ ?_)
 ·first | trivial | simp
 refine .ret ⟨.inr rfl, ?_⟩
 exact Out.plainL (by simp only [Tryz.results46]; rfl) (by simp only [aq_, a8_, go_sem, seval, aa_, ab_] <;> (split <;> rfl)) (by simp only [a7_, go_sem, seval, aa_, ab_] <;> (rw [List.take_of_length_le (by rw [ab_]; exact Nat.le_refl _)]; exact ba_ _)) (by simp only [go_sem, seval, aa_, ab_])
theorem lf_ (s : Str) (hs : s.length ≤ 281474976710656) : ACall En 13 [.s s] [] [.sl false (bm_ (dx_ s))] [] := by
 refine ah_ (fn := Tryz.f13) [] Tryz.func13 rfl rfl (by simp) fun C => ?_
 rw [ar_]
 simp only [Tryz.ntmps13, List.length_cons, List.length_nil, Nat.reduceAdd, Nat.reduceSub, List.replicate_succ, List.replicate_zero, List.cons_append, List.nil_append, bd_]
 refine .seq (.rgn [] (by simp only [go_sem, seval, aa_]; rfl) ?_ ?_)
 ·(first | trivial | (simp; done) | (simpa using h5))
 refine .seq (.seq (.rgn [a2_ (ps_ s hs)] (by simp only [go_sem, seval, aa_]; rfl) ?_ ?_))
 ·(first | trivial | (simp; done) | (simpa using h5))
 refine .condB (by simp only [go_sem, seval, aa_]; rfl) (by simp only [go_sem, seval, aa_]) (fun h5 => ?_) (fun h5 => ?_)
 ·refine .seq (.rgn [] (by simp only [go_sem, seval, aa_]; rfl) ?_ ?_)
  ·(first | trivial | (simp; done) | (simpa using h5))
  refine .ret ⟨.inr rfl, ?_⟩
  exact Out.plainL (by simp only [Tryz.results13]; rfl) (by simp only [aq_, a8_, go_sem, seval, aa_] <;> (split <;> rfl)) (by simp only [a7_, go_sem, seval, aa_] <;> (simp at h5; simp [dx_, h5, bm_, ler])) (by simp only [go_sem, seval, aa_])
 ·refine .skip (.seq (.rgn [c1_ (tOk s = true) (fun h => afi_ s (by have := nd_ h; omega)), c1_ (tOk s = true) (fun h => vu_ (spl s) (by have := nm_ s; have := nd_ h; omega))] (by simp only [go_sem, seval, aa_]; rfl) ?_ ?_))
  ·(first | trivial | (simp; done) | (simpa using h5))
  refine .ret ⟨.inr rfl, ?_⟩
  exact Out.plainL (by simp only [Tryz.results13]; rfl) (by simp only [aq_, a8_, go_sem, seval, aa_] <;> (split <;> rfl)) (by simp only [a7_, go_sem, seval, aa_] <;> (simp at h5; simp [dx_, h5, ba_, leV])) (by simp only [go_sem, seval, aa_])
end
end Go.Proofs.YtefmbmafdgedmaaGreatDoor
