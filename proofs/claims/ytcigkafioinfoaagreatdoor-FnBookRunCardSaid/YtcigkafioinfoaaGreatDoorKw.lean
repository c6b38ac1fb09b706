/- Texts and their lines, plainly. Conditions: none. -/
import Derived.Test.YtcigkafioinfoaaGreatDoorKq
import Derived.Lib.Split
import Derived.Lib.IndexBytes
import Derived.Test.YtcigkafioinfoaaGreatDoorKf
import Derived.Lib.SmallJoins
import Derived.Lib.SplitLaws
import Derived.Test.YtcigkafioinfoaaGreatDoorKn
set_option linter.unusedVariables false
set_option linter.unusedSimpArgs false
namespace Go.Proofs.YtcigkafioinfoaaGreatDoor
section
def spl : Str → List Str
 | [] => [[]]
 | c :: l => if c = 10 then [] :: spl l else match spl l with
  | [] => [[c]]
  | w :: r => (c :: w) :: r
theorem aly_ : ∀ l : Str, spl l ≠ []
 | [] => by simp [spl]
 | c :: l => by
  unfold spl
  split
  ·simp
  ·split <;> simp
theorem al4_ (l : Str) : spl (10 :: l) = [] :: spl l := by simp [spl]
theorem wg_ {c : UInt8} (h : c ≠ 10) {l : Str} {w : Str} {r : List Str} (hl : spl l = w :: r) : spl (c :: l) = (c :: w) :: r := by
 rw [spl, if_neg h, hl]
theorem i5_ : ∀ {w : Str}, (10 : UInt8) ∉ w → spl w = [w]
 | [], _ => rfl
 | c :: w, h => by
  rw [wg_ (by rintro rfl; simp at h) (i5_ (w := w) fun q => h (by simp [q]))]
theorem lp_ : ∀ {w : Str}, (10 : UInt8) ∉ w → ∀ l, spl (w ++ 10 :: l) = w :: spl l
 | [], _, l => al4_ l
 | c :: w, h, l => by
  rw [List.cons_append, wg_ (by rintro rfl; simp at h) (lp_ (w := w) (fun q => h (by simp [q])) l)]
theorem r4_ : ∀ {ls : List Str}, ls ≠ [] → (∀ w ∈ ls, (10 : UInt8) ∉ w) → spl (cf_ ls) = ls
 | [], h, _ => absurd rfl h
 | [s], _, h => by rw [ot_, i5_ (h s (by simp))]
 | s :: x :: l, _, h => by
  rw [jz_, lp_ (h s (by simp)), r4_ (ls := x :: l) (by simp) fun w hw => h w (by simp at hw ⊢; exact .inr hw)]
theorem n8_ : ∀ l : Str, (spl l).length ≤ l.length + 1
 | [] => by simp [spl]
 | c :: l => by
  have := n8_ l
  unfold spl
  split
  ·simp; omega
  ·split
   ·simp
   ·rename_i he; rw [he] at this; simp at this ⊢; omega
theorem nd_ : ∀ l : Str, ∀ w ∈ spl l, w.length ≤ l.length
 | [], w, h => by simp [spl] at h; subst h; simp
 | c :: l, w, h => by
  have ih := nd_ l
  unfold spl at h
  split at h
  ·simp only [List.mem_cons] at h
   rcases h with rfl | h
   ·simp
   ·have := ih w h; simp; omega
  ·split at h
   ·simp only [List.mem_cons, List.not_mem_nil, or_false] at h
    subst h; simp
   ·rename_i u r he
    simp only [List.mem_cons] at h
    rcases h with rfl | h
    ·have := ih u (by rw [he]; simp); simp; omega
    ·have := ih w (by rw [he]; simp [h]); simp; omega
theorem q6_ : ∀ {s : Str}, Lib.indexByte s 10 = -1 → (10 : UInt8) ∉ s
 | [], _ => by simp
 | b :: l, h => by
  have hg := p4_ l 10
  unfold Lib.indexByte at h
  split at h
  ·exact absurd h (by decide)
  ·rename_i hb
   split at h
   ·rename_i h2
    have := q6_ (s := l) (by simpa using h2)
    simp only [List.mem_cons, not_or]
    exact ⟨fun e => hb (by simp [e]), this⟩
   ·omega
theorem w0_ : ∀ {s : Str} {i : Nat}, Lib.indexByte s 10 = i → (10 : UInt8) ∉ s.take i ∧ s = s.take i ++ 10 :: s.drop (i + 1)
 | [], i, h => by simp [Lib.indexByte] at h
 | b :: l, i, h => by
  have hg := p4_ l 10
  unfold Lib.indexByte at h
  split at h
  ·rename_i hb
   obtain rfl : i = 0 := by omega
   have : b = 10 := by simpa using hb
   subst this; simp
  ·rename_i hb
   split at h
   ·omega
   ·rename_i h2
    have h2' : Lib.indexByte l 10 ≠ -1 := by simpa using h2
    obtain ⟨j, hj⟩ : ∃ j : Nat, Lib.indexByte l 10 = j := ⟨(Lib.indexByte l 10).toNat, by omega⟩
    obtain rfl : i = j + 1 := by omega
    obtain ⟨q1, q2⟩ := w0_ (s := l) hj
    refine ⟨?_, ?_⟩
    ·simp only [List.take_succ_cons, List.mem_cons, not_or]
     exact ⟨fun e => hb (by simp [e]), q1⟩
    ·simp only [List.take_succ_cons, List.drop_succ_cons, List.cons_append]
     rw [← q2]
theorem ru_ : ∀ (n : Nat) (s : Str), s.length ≤ n → Lib.splitK [10] 0 (Lib.count s [10]) s = spl s
 | 0, s, h => by
  obtain rfl : s = [] := List.eq_nil_of_length_eq_zero (by omega)
  rfl
 | n + 1, s, h => by
  have hg := Lib.index_ge s [10]
  have ho : Lib.index s [10] = Lib.indexByte s 10 := Lib.index_one s 10
  by_cases hm : Lib.index s [10] = -1
  ·rw [Lib.count_miss hm, i5_ (q6_ (ho ▸ hm))]; rfl
  ·obtain ⟨i, hi⟩ : ∃ i : Nat, Lib.index s [10] = i := ⟨(Lib.index s [10]).toNat, by omega⟩
   obtain ⟨q1, q2⟩ := w0_ (ho ▸ hi)
   rw [Lib.count_hit (by simp) hi, Nat.add_comm 1, Lib.splitK, if_neg (by simpa using hm), hi]
   simp only [Int.toNat_natCast, Nat.add_zero, T7_, List.length_nil, Nat.zero_add]
   have hl : (s.drop (i + 1)).length ≤ n := by
    have := congrArg List.length q2
    rw [T2_, T7_] at this
    omega
   rw [ru_ n (s.drop (i + 1)) hl]
   conv => rhs; rw [q2]
   rw [lp_ q1]
def gr_ : Str → Int → Bool
 | [], _ => true
 | c :: l, w => if c = 10 then gr_ l 0 else decide (32 ≤ c.toNat) && decide (c.toNat ≤ 126) && decide (w + 1 ≤ 120) && gr_ l (w + 1)
def tOk (s : Str) : Bool := gr_ s 0 && decide (s.length ≤ 4000)
def prt (c : UInt8) : Bool := decide (32 ≤ c.toNat) && decide (c.toNat ≤ 126)
theorem t4_ {c : UInt8} (h : prt c = true) : c ≠ 10 := by rintro rfl; simp [prt] at h
theorem r8_ : ∀ {l : Str} {w : Int}, l.all prt = true → w + l.length ≤ 120 → gr_ l w = true
 | [], _, _, _ => rfl
 | c :: l, w, h, hw => by
  simp only [List.all_cons, T5_] at h
  simp only [T7_] at hw
  have hp := h.1
  simp only [prt, T5_] at hp
  rw [gr_, if_neg (t4_ h.1), hp.1, hp.2, r8_ h.2 (by omega)]
  simp; omega
theorem ww_ : ∀ {l : Str} {w : Int} {r : Str}, l.all prt = true → w + l.length ≤ 120 → gr_ (l ++ 10 :: r) w = gr_ r 0
 | [], _, r, _, _ => by simp [gr_]
 | c :: l, w, r, h, hw => by
  simp only [List.all_cons, T5_] at h
  simp only [T7_] at hw
  have hp := h.1
  simp only [prt, T5_] at hp
  rw [List.cons_append, gr_, if_neg (t4_ h.1), hp.1, hp.2, ww_ h.2 (by omega)]
  have : decide (w + 1 ≤ 120) = true := by simp; omega
  rw [this]; rfl
def lnOk (l : Str) : Prop := l.all prt = true ∧ l.length ≤ 120
theorem ady_ {l : Str} (h : lnOk l) : (10 : UInt8) ∉ l := fun q => t4_ (List.all_eq_true.1 h.1 10 q) rfl
theorem o8_ : ∀ {ls : List Str}, (∀ w ∈ ls, lnOk w) → gr_ (cf_ ls) 0 = true
 | [], _ => by rw [ko_]; rfl
 | [s], h => by rw [ot_]; exact r8_ (h s (by simp)).1 (by have := (h s (by simp)).2; omega)
 | s :: x :: l, h => by
  rw [jz_, ww_ (h s (by simp)).1 (by have := (h s (by simp)).2; omega)]
  exact o8_ (ls := x :: l) fun w hw => h w (by simp at hw ⊢; exact .inr hw)
def dc_ (s : Str) : List Str := if tOk s then spl s else []
theorem xt_ {ls : List Str} (h : ∀ w ∈ ls, lnOk w) (hn : ls ≠ []) (h16 : ls.length ≤ 16) : dc_ (cf_ ls) = ls := by
 have h1 := o8_ h
 have h2 := ri_ (l := ls) (k := 120) fun s hs => (h s hs).2
 unfold dc_
 rw [if_pos (by simp [tOk, h1]; omega), r4_ hn fun w hw => ady_ (h w hw)]
theorem qd_ (s : Str) : (dc_ s).length ≤ 4001 := by
 unfold dc_
 split
 ·rename_i h
  have := n8_ s
  simp only [tOk, T5_, T3_] at h
  omega
 ·simp
theorem kf_ (s : Str) : ∀ w ∈ dc_ s, w.length ≤ 4000 := by
 unfold dc_
 split
 ·rename_i h
  intro w hw
  have := nd_ s w hw
  simp only [tOk, T5_, T3_] at h
  omega
 ·simp
theorem abf_ {c : UInt8} (h : cs_ c = true) : prt c = true := by
 simp only [cs_, prt, T5_, T3_] at *; omega
theorem aa9_ {c : UInt8} (h : cm_ c = true) : prt c = true := by
 simp only [cm_, prt, T5_, T3_] at *; omega
theorem agv_ {s : Str} (h : ey_ s = true) : s.all prt = true := by
 simp only [ey_, T5_, beq_iff_eq] at h
 obtain ⟨h1, h2⟩ := h
 match s, h1, h2 with
 | [c], _, h2 =>
  have : c ∈ marks := by simpa using h2
  simp only [marks, List.mem_cons, List.not_mem_nil, or_false] at this
  rcases this with rfl | rfl | rfl | rfl | rfl | rfl | rfl | rfl <;> decide
theorem sq_ {w : Str} (h : d1_ w) : w.all prt = true := by
 unfold d1_ c2_ at h
 split at h
 ·rename_i hw
  simp only [eq_, T5_] at hw
  exact List.all_eq_true.2 fun c hc => abf_ (List.all_eq_true.1 hw.1.1 c hc)
 ·split at h
  ·rename_i hw
   obtain ⟨n, _, rfl⟩ := dr_.1 hw
   exact List.all_eq_true.2 fun c hc => aa9_ ((jr_ c).2 (df_ n c hc))
  ·split at h
   ·rename_i hw; exact agv_ hw
   ·exact absurd rfl h
theorem v0_ : ∀ {l : List Str}, (∀ w ∈ l, d1_ w) → (bz_ l).all prt = true
 | [], _ => rfl
 | [s], h => by rw [e9_]; exact sq_ (h s (by simp))
 | s :: x :: l, h => by
  rw [et_, List.all_append, List.all_cons, sq_ (h s (by simp)), v0_ (l := x :: l) fun w hw => h w (by simp at hw ⊢; exact .inr hw)]
  rfl
theorem pw_ {b : Bl} (h : bok b = true) : lnOk (iw_ b) := ⟨v0_ (u1_ h), (ls_ h).1⟩
end
section
open Go.RowKit
set_option maxRecDepth 100000
theorem aa6_ {φ : Phi} {S : Nat → Prop} {w : World} : ∀ l : List Str, VRr φ S w 1 (bo_ l) (l.map fun s => Value.string ⟨s.toArray⟩)
 | [] => by simp only [bo_, List.map_nil]; exact VRr.nil
 | s :: l => by
  simp only [bo_, List.map_cons]
  exact VRr.cons (ys := [.string ⟨s.toArray⟩]) rfl (.cons (by simp only [VR]) .nil) (fun u hu => by simp at hu; subst hu; rfl) (aa6_ l)
theorem ait_ (s : Str) (hs : s.length ≤ 1000000) : ACall En 116 [.s s, .s [10]] [] [.sl false (bo_ (spl s))] [] := by
 refine f4_ (fn := Tryz.f116) Tryz.func116 rfl rfl fun S w xs hx _ ⟨B, hB, _⟩ => ?_
 simp only [VRs, VR] at hx
 obtain ⟨x, r, e1, rfl, y, q, e2, rfl, rfl⟩ := hx
 subst e2
 obtain rfl : xs = #[.string ⟨s.toArray⟩, .string ⟨[10].toArray⟩] := by apply Array.ext'; simpa using e1
 obtain ⟨m, hm⟩ := hB.maxl
 have hd : (⟨s.toArray⟩ : ByteArray).data.toList = s := by simp
 have hk : (Lib.splitB ⟨[10].toArray⟩ 0 (Lib.countB ⟨s.toArray⟩ ⟨[10].toArray⟩) ⟨s.toArray⟩).map (·.data.toList) = spl s := by
  rw [Lib.splitB_data]
  exact ru_ s.length s (Nat.le_refl _)
 have hv : (Lib.splitB ⟨[10].toArray⟩ 0 (Lib.countB ⟨s.toArray⟩ ⟨[10].toArray⟩) ⟨s.toArray⟩).map Value.string = (spl s).map fun s => Value.string ⟨s.toArray⟩ := by
  rw [← hk, List.map_map]
  exact List.map_congr_left fun b _ => by cases b; simp
 have hl : (spl s).length = Lib.countB ⟨s.toArray⟩ ⟨[10].toArray⟩ + 1 := by
  rw [← hk, List.length_map]
  exact Lib.splitB_all _ (by simp [ByteArray.size]) 0 _ _ rfl
 refine (Tryz.strings_Split ⟨s.toArray⟩ ⟨[10].toArray⟩ m w (by simp [ByteArray.size]; omega) hm (by simp [ByteArray.size])).mono ?_
 rintro e w' ⟨rfl, rfl⟩
 rw [hv, ← hl]
 refine ⟨[_], rfl, Joins.below_alloc1 _ _, .cons ?_ .nil⟩
 have := n8_ s
 simp only [VR, ab_]
 refine ⟨some ⟨w.heap.size, 0, none⟩, (spl s).length, 1, (spl s).map fun s => .string ⟨s.toArray⟩, rfl, Nat.le_refl _, by unfold maxLen; omega, fun e => (by simp at e), fun _ => ⟨w.heap.size, 0, rfl, .inr (Nat.le_refl _), by show _ < (w.heap.push _).size; rw [Array.size_push]; exact Nat.lt_succ_self _, fun j u hu => ?_⟩, aa6_ (spl s)⟩
 rw [Joins.cell_alloc_mark_at w _ _ _ _ _ rfl]
 simpa using hu
end
section
set_option maxRecDepth 100000
set_option maxHeartbeats 4000000
theorem n1_ {s : Str} {k : Nat} (h : k < s.length) (w : Int) : gr_ (s.drop k) w = if ((s.getD k 0).toNat : Int) = 10 then gr_ (s.drop (k + 1)) 0 else decide (32 ≤ ((s.getD k 0).toNat : Int)) && decide (((s.getD k 0).toNat : Int) ≤ 126) && decide (w + 1 ≤ 120) && gr_ (s.drop (k + 1)) (w + 1) := by
 have e : s.drop k = s.getD k 0 :: s.drop (k + 1) := by
  rw [List.drop_eq_getElem_cons h, T8_, T6_ h]; rfl
 rw [e, gr_]
 by_cases hc : s.getD k 0 = 10
 ·rw [if_pos hc, if_pos (by rw [hc]; rfl)]
 ·rw [if_neg hc, if_neg (fun q => hc (by apply UInt8.toNat_inj.1; show _ = 10; omega))]
  congr 2
  congr 1
  ·exact decide_eq_decide.2 (by omega)
  ·exact decide_eq_decide.2 (by omega)
theorem mx_ {s : Str} {k : Nat} (h : k < s.length) {w : Int} (h15 : ¬ ((s.getD k 0).toNat : Int) = 10) : gr_ (s.drop k) w = (!(decide (((s.getD k 0).toNat : Int) < 32) || decide (((s.getD k 0).toNat : Int) > 126) || decide (w + 1 > 120)) && gr_ (s.drop (k + 1)) (w + 1)) := by
 rw [n1_ h, if_neg h15]
 generalize ((s.getD k 0).toNat : Int) = c
 rw [show decide (32 ≤ c) = !decide (c < 32) by rw [← decide_not]; exact decide_eq_decide.2 (by omega), show decide (c ≤ 126) = !decide (c > 126) by rw [← decide_not]; exact decide_eq_decide.2 (by omega), show decide (w + 1 ≤ 120) = !decide (w + 1 > 120) by rw [← decide_not]; exact decide_eq_decide.2 (by omega)]
 cases decide (c < 32) <;> cases decide (c > 126) <;> cases decide (w + 1 > 120) <;> rfl
theorem l6_ {s : Str} (h : tOk s = true) : s.length ≤ 4000 := by simp only [tOk, T5_, T3_] at h; exact h.2
theorem su_ (s : Str) (hs : s.length ≤ 281474976710656) : ACall En 114 [.s s] [] [.b (tOk s)] [] := by
 refine aj_ (fn := Tryz.f114) [] Tryz.func114 rfl rfl (by simp) fun C => ?_
 rw [ay_]
 simp only [Tryz.ntmps114, T7_, List.length_nil, Nat.reduceAdd, Nat.reduceSub, List.replicate_succ, List.replicate_zero, List.cons_append, List.nil_append, bu_]
 refine .seq (.rgn [] (by simp only [go_sem, seval]; rfl) ?_ ?_)
 ·first | trivial | simp
 refine .seq (.rgn [] (by simp only [go_sem, seval]; rfl) ?_ ?_)
 ·first | trivial | simp
 refine .seq (.seq (.rgn [] (by simp only [go_sem, seval]; rfl) ?_ ?_))
 ·first | trivial | simp
 refine .block (.loopK (fun q : Nat × Int => ⟨[.s s, .no, .no, .i .i64 q.2, .no, .no, .i .i64 s.length, .i .i64 q.1, .no, .no, .no, .no, .no, .no, .no, .no, .no, .no, .no, .no, .no, .no, .no, .no, .no, .no, .no, .no, .no, .no, .no, .no, .no, .no], bh_ [], us []⟩) (fun q : Nat × Int => q.1 ≤ s.length ∧ 0 ≤ q.2 ∧ q.2 ≤ 120 ∧ gr_ (s.drop q.1) q.2 = gr_ s 0) (fun q : Nat × Int => s.length - q.1) ((0, 0)) ?_ ?_ (fun q hI => ?_))
 ·exact ⟨by simp, by decide, by decide, rfl⟩
 ·exact Can.weak (Weak.lit (by simp only [go_sem, seval, ar_, leV, ap_, aq_, V.inn, us, T9_, Ta_] <;> (simp)) (by simp only [go_sem, seval, ar_, leV, ap_, aq_, V.inn, us, T9_, Ta_]) (by simp only [go_sem, seval, ar_, leV, ap_, aq_, V.inn, us, T9_, Ta_]))
 refine .seq (.rgn [] (by simp only [go_sem, seval]; rfl) ?_ ?_)
 ·first | trivial | simp
 refine .seq (.condB (by simp only [go_sem, seval]; rfl) (by simp only [go_sem, seval]) (fun h8 => ?_) (fun h8 => ?_))
 ·refine .skip (.seqJ (fun p : Int => ⟨[.s s, .no, .no, .i .i64 p, .no, .no, .i .i64 s.length, .i .i64 q.1, .no, .no, .no, .no, .no, .no, .no, .no, .no, .no, .no, .no, .no, .no, .no, .no, .no, .no, .no, .no, .no, .no, .no, .no, .no, .no], bh_ [], us []⟩) (fun p : Int => 0 ≤ p ∧ p ≤ 120 ∧ gr_ (s.drop (q.1 + 1)) p = gr_ s 0) ?_ (fun p hJ => ?_))
  ·refine .block (.seq (.rgn [] (by simp only [go_sem, seval]; rfl) ?_ ?_))
   ·first | trivial | simp
   refine .seq (.rgn [] (by simp only [go_sem, seval]; rfl) ?_ ?_)
   ·first | trivial | simp
   refine .seq (.rgn [] (by simp only [go_sem, seval]; rfl) ?_ ?_)
   ·simp at h8; simp; omega
   refine .condB (by simp only [go_sem, seval]; rfl) (by simp only [go_sem, seval]) (fun h15 => ?_) (fun h15 => ?_)
   ·refine .rgn [] (by simp only [go_sem, seval]; rfl) ?_ ?_
    ·first | trivial | simp
    refine Exists.intro (0) ⟨?_, ?_⟩
    ·first | (have e := n1_ (show q.1 < s.length by simpa using h8) q.2; rw [if_pos (by simpa using h15)] at e; exact ⟨by decide, by decide, by rw [← e]; exact hI.2.2.2⟩) | (have e := mx_ (show q.1 < s.length by simpa using h8) (w := q.2) (by simpa using h15); rw [bi_ (by omega) (by omega)] at h29; rw [h29] at e; simp only [Bool.or_eq_false_iff, T4_] at h29; exact ⟨by omega, by omega, by rw [← hI.2.2.2, e]; rfl⟩)
    exact Can.weak (Weak.lit (by simp only [go_sem, seval, ar_, leV, ap_, aq_, V.inn, us, T9_, Ta_] <;> (rw [bi_ (by omega) (by omega)])) (by simp only [go_sem, seval, ar_, leV, ap_, aq_, V.inn, us, T9_, Ta_]) (by simp only [go_sem, seval, ar_, leV, ap_, aq_, V.inn, us, T9_, Ta_]))
   ·refine .seq (.rgn [] (by simp only [go_sem, seval]; rfl) ?_ ?_)
    ·simp only [T3_] at h8; exact ⟨⟨⟨⟨by omega, by omega⟩, fun h => ⟨h, by omega, by omega⟩⟩, fun h => by rw [h]; rfl⟩, fun h => by rw [h]; rfl⟩
    refine .condB (by simp only [go_sem, seval]; rfl) (by simp only [go_sem, seval]) (fun h29 => ?_) (fun h29 => ?_)
    ·refine .seq (.rgn [] (by simp only [go_sem, seval]; rfl) ?_ ?_)
     ·first | trivial | simp
     refine .ret ⟨.inr rfl, ?_⟩
     exact Out.plain (by simp only [Tryz.results114]; rfl) (by simp only [az_, bc_, go_sem, seval] <;> (split <;> rfl)) (by simp only [bb_, go_sem, seval] <;> (have e := mx_ (show q.1 < s.length by simpa using h8) (w := q.2) (by simpa using h15); rw [bi_ (by omega) (by omega)] at h29; rw [h29] at e; unfold tOk; rw [← hI.2.2.2, e]; rfl)) (by simp only [go_sem, seval])
    ·refine .skip ?_
     refine Exists.intro (q.2 + 1) ⟨?_, ?_⟩
     ·first | (have e := n1_ (show q.1 < s.length by simpa using h8) q.2; rw [if_pos (by simpa using h15)] at e; exact ⟨by decide, by decide, by rw [← e]; exact hI.2.2.2⟩) | (have e := mx_ (show q.1 < s.length by simpa using h8) (w := q.2) (by simpa using h15); rw [bi_ (by omega) (by omega)] at h29; rw [h29] at e; simp only [Bool.or_eq_false_iff, T4_] at h29; exact ⟨by omega, by omega, by rw [← hI.2.2.2, e]; rfl⟩)
     exact Can.weak (Weak.lit (by simp only [go_sem, seval, ar_, leV, ap_, aq_, V.inn, us, T9_, Ta_] <;> (rw [bi_ (by omega) (by omega)])) (by simp only [go_sem, seval, ar_, leV, ap_, aq_, V.inn, us, T9_, Ta_]) (by simp only [go_sem, seval, ar_, leV, ap_, aq_, V.inn, us, T9_, Ta_]))
  refine .rgn [] (by simp only [go_sem, seval]; rfl) ?_ ?_
  ·first | trivial | simp
  refine Exists.intro ((q.1 + 1, p)) ⟨?_, ?_, ?_⟩
  ·simp at h8; exact ⟨by dsimp only; omega, hJ.1, hJ.2.1, hJ.2.2⟩
  ·simp at h8; dsimp only; omega
  exact Can.weak (Weak.lit (by simp only [go_sem, seval, ar_, leV, ap_, aq_, V.inn, us, T9_, Ta_] <;> (rw [bi_ (by omega) (by omega)]; simp)) (by simp only [go_sem, seval, ar_, leV, ap_, aq_, V.inn, us, T9_, Ta_]) (by simp only [go_sem, seval, ar_, leV, ap_, aq_, V.inn, us, T9_, Ta_]))
 ·refine .exit (.seq (.rgn [] (by simp only [go_sem, seval]; rfl) ?_ ?_))
  ·first | trivial | simp
  refine .ret ⟨.inr rfl, ?_⟩
  exact Out.plain (by simp only [Tryz.results114]; rfl) (by simp only [az_, bc_, go_sem, seval] <;> (split <;> rfl)) (by simp only [bb_, go_sem, seval] <;> (simp only [T4_] at h8; have e := hI.2.2.2; rw [List.drop_of_length_le (by omega)] at e; unfold tOk; rw [← e]; simp only [gr_, Bool.true_and]; rw [show decide ((s.length : Int) ≤ 4000) = decide (s.length ≤ 4000) from decide_eq_decide.2 (by omega)])) (by simp only [go_sem, seval])
theorem x5_ (l : List Str) (hl : l.length < 1099511627776) : ACall En 115 [.sl false (bo_ l)] [] [.sl false (bo_ l)] [] := by
 refine aj_ (fn := Tryz.f115) [] Tryz.func115 rfl rfl (by simp) fun C => ?_
 rw [ay_]
 simp only [Tryz.ntmps115, T7_, List.length_nil, Nat.reduceAdd, Nat.reduceSub, List.replicate_succ, List.replicate_zero, List.cons_append, List.nil_append, bu_]
 refine .seq (.rgn [] (by simp only [go_sem, seval, aa_, ab_]; rfl) ?_ ?_)
 ·first | trivial | simp
 refine .seq (.rgn [] (by simp only [go_sem, seval, aa_, ab_]; rfl) ?_ ?_)
 ·first | trivial | simp
 refine .ret ⟨.inr rfl, ?_⟩
 exact Out.plainL (by simp only [Tryz.results115]; rfl) (by simp only [az_, bc_, go_sem, seval, aa_, ab_] <;> (split <;> rfl)) (by simp only [bb_, go_sem, seval, aa_, ab_] <;> (rw [T1_ (by rw [ab_]; exact Nat.le_refl _)]; exact be_ _)) (by simp only [go_sem, seval, aa_, ab_])
theorem t1_ (s : Str) (hs : s.length ≤ 281474976710656) : ACall En 57 [.s s] [] [.sl false (bo_ (dc_ s))] [] := by
 refine aj_ (fn := Tryz.f57) [] Tryz.func57 rfl rfl (by simp) fun C => ?_
 rw [ay_]
 simp only [Tryz.ntmps57, T7_, List.length_nil, Nat.reduceAdd, Nat.reduceSub, List.replicate_succ, List.replicate_zero, List.cons_append, List.nil_append, bu_]
 refine .seq (.rgn [] (by simp only [go_sem, seval, aa_]; rfl) ?_ ?_)
 ·(first | trivial | (simp; done) | (simpa using h5))
 refine .seq (.seq (.rgn [a8_ (su_ s hs)] (by simp only [go_sem, seval, aa_]; rfl) ?_ ?_))
 ·(first | trivial | (simp; done) | (simpa using h5))
 refine .condB (by simp only [go_sem, seval, aa_]; rfl) (by simp only [go_sem, seval, aa_]) (fun h5 => ?_) (fun h5 => ?_)
 ·refine .seq (.rgn [] (by simp only [go_sem, seval, aa_]; rfl) ?_ ?_)
  ·(first | trivial | (simp; done) | (simpa using h5))
  refine .ret ⟨.inr rfl, ?_⟩
  exact Out.plainL (by simp only [Tryz.results57]; rfl) (by simp only [az_, bc_, go_sem, seval, aa_] <;> (split <;> rfl)) (by simp only [bb_, go_sem, seval, aa_] <;> (simp at h5; simp [dc_, h5, bo_, ler])) (by simp only [go_sem, seval, aa_])
 ·refine .skip (.seq (.rgn [ce_ (tOk s = true) (fun h => ait_ s (by have := l6_ h; omega)), ce_ (tOk s = true) (fun h => x5_ (spl s) (by have := n8_ s; have := l6_ h; omega))] (by simp only [go_sem, seval, aa_]; rfl) ?_ ?_))
  ·(first | trivial | (simp; done) | (simpa using h5))
  refine .ret ⟨.inr rfl, ?_⟩
  exact Out.plainL (by simp only [Tryz.results57]; rfl) (by simp only [az_, bc_, go_sem, seval, aa_] <;> (split <;> rfl)) (by simp only [bb_, go_sem, seval, aa_] <;> (simp at h5; simp [dc_, h5, be_, leV])) (by simp only [go_sem, seval, aa_])
end
end Go.Proofs.YtcigkafioinfoaaGreatDoor
