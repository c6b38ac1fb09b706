/- The words of a line; where a word stands: the reference's. Conditions: none. -/
import Derived.Test.YtcigkafioinfoaaGreatDoorK5
import Derived.Test.YtcigkafioinfoaaGreatDoorKg
import Derived.Test.YtcigkafioinfoaaGreatDoorKl
import Derived.Test.YtcigkafioinfoaaGreatDoorKi
set_option linter.unusedVariables false
set_option linter.unusedSimpArgs false
namespace Go.Proofs.YtcigkafioinfoaaGreatDoor
section
set_option maxRecDepth 100000
set_option maxHeartbeats 4000000
theorem add_ (s : Str) (hs : s.length ≤ 281474976710656) : ACall En 184 [.s s] [] [.sl false (bo_ (ck_ s)), .b (b4_ s).isSome] [] := by
 have T := y1_ s hs
 have hb := pu_ s
 unfold ck_
 generalize (b4_ s).getD [] = ts at *
 refine aj_ (fn := Tryz.f184) [] Tryz.func184 rfl rfl (by simp) fun C => ?_
 rw [ay_]
 simp only [Tryz.ntmps184, T7_, List.length_nil, Nat.reduceAdd, Nat.reduceSub, List.replicate_succ, List.replicate_zero, List.cons_append, List.nil_append, bu_]
 refine .seq (.rgn [] (by simp only [go_sem, seval, a4_, aw_]; rfl) ?_ ?_)
 ·(first | trivial | (simp; done) | (simp only [T3_] at h17; simp [bo_, b6_]; omega))
 refine .seq (.rgn [a8_ T] (by simp only [go_sem, seval, a4_, aw_]; rfl) ?_ ?_)
 ·(first | trivial | (simp; done) | (simp only [T3_] at h17; simp [bo_, b6_]; omega))
 refine .seq (.rgn [] (by simp only [go_sem, seval, a4_, aw_]; rfl) ?_ ?_)
 ·(first | trivial | (simp; done) | (simp only [T3_] at h17; simp [bo_, b6_]; omega))
 refine .seq (.seq (.rgn [] (by simp only [go_sem, seval, a4_, aw_]; rfl) ?_ ?_))
 ·(first | trivial | (simp; done) | (simp only [T3_] at h17; simp [bo_, b6_]; omega))
 refine .block (.loopK (fun k : Nat => ⟨[.no, .no, .no, .no, .sl false (tkR ts), .b (b4_ s).isSome, .ow 23 1 0 k, .i .i64 k, .no, .no, .no, .no, .no, .no, .no, .no, .no, .no, .no, .no, .no, .no, .no, .no, .no, .no, .no, .no, .no, .no], bh_ [(23, ⟨9, 1, bo_ ((ts.take k).map (·.s))⟩)], us [23]⟩) (fun k : Nat => k ≤ ts.length) (fun k : Nat => ts.length - k) (0) ?_ ?_ (fun k hI => ?_))
 ·simp
 ·refine Can.trans (Can.ownSlot 6 23 9 1 (by simp only [go_sem, seval, a4_, aw_] <;> rfl) (by simp only [go_sem, seval, a4_, aw_]) (by simp only [go_sem, seval, a4_, aw_] <;> rfl)) ?_
  exact Can.weak (Weak.lit (by simp only [go_sem, seval, a4_, aw_, ar_, leV, ap_, aq_, V.inn, us, T9_, Ta_] <;> ((try simp))) (by simp only [go_sem, seval, a4_, aw_, ar_, leV, ap_, aq_, V.inn, us, T9_, Ta_]) (by simp only [go_sem, seval, a4_, aw_, ar_, leV, ap_, aq_, V.inn, us, T9_, Ta_] <;> ((try simp [bo_]))))
 refine .seq (.seq (.rgn [] (by simp only [go_sem, seval, a4_, aw_]; rfl) ?_ ?_))
 ·(first | trivial | (simp; done) | (simp only [T3_] at h17; simp [bo_, b6_]; omega))
 refine .condB (by simp only [go_sem, seval, a4_, aw_]; rfl) (by simp only [go_sem, seval, a4_, aw_]) (fun h17 => ?_) (fun h17 => ?_)
 ·refine .skip (.seq (.block (.rgn [] (by simp only [go_sem, seval, a4_, aw_, aa1_ (show k < ts.length by simpa using h17)]; rfl) ?_ ?_)))
  ·(first | trivial | (simp; done) | (simp only [T3_] at h17; simp [bo_, b6_]; omega))
  refine .rgn [] (by simp only [go_sem, seval, a4_, aw_]; rfl) ?_ ?_
  ·(first | trivial | (simp; done) | (simp only [T3_] at h17; simp [bo_, b6_]; omega))
  refine Exists.intro (k + 1) ⟨?_, ?_, ?_⟩
  ·simp at h17; omega
  ·simp at h17; omega
  refine Can.trans (Can.swap 37 23 (by decide) (by decide) (by decide) (by decide) (by simp only [go_sem, seval, a4_, aw_, V.cl]) (by simp only [go_sem, seval, a4_, aw_, V.cl]) (by simp only [go_sem, seval, a4_, aw_, bj_, sw, swM, rnB] <;> rfl) (by simp only [go_sem, seval, a4_, aw_, bj_, sw, swM, rnB] <;> rfl) (by simp only [go_sem, seval, a4_, aw_, bj_, sw, swM, rnB] <;> rfl)) ?_
  exact Can.weak (Weak.lit (by simp only [go_sem, seval, a4_, aw_, ar_, leV, ap_, aq_, V.inn, us, T9_, Ta_] <;> (rw [bi_ (by simp at h17; omega) (by simp at h17; omega)]; (try simp))) (by simp only [go_sem, seval, a4_, aw_, ar_, leV, ap_, aq_, V.inn, us, T9_, Ta_]) (by simp only [go_sem, seval, a4_, aw_, ar_, leV, ap_, aq_, V.inn, us, T9_, Ta_] <;> (simp only [T3_] at h17; rw [List.take_add_one, T6_ (show k < ts.length by omega)]; simp [-List.map_take, -List.take_append_getElem, bo_, T8_, T6_ (show k < ts.length by omega)])))
 ·refine .exit (.seq (.rgn [] (by simp only [go_sem, seval, a4_, aw_]; rfl) ?_ ?_))
  ·(first | trivial | (simp; done) | (simp only [T3_] at h17; simp [bo_, b6_]; omega))
  refine .frz 23 (by simp only [go_sem, seval, a4_, aw_]; rfl) (by simp only [go_sem, seval, a4_, aw_]) (by simp only [go_sem, seval, a4_, aw_]; rfl) (by simp only [go_sem, seval, a4_, aw_]; rfl) ?_
  refine .ret ⟨.inr rfl, ?_⟩
  exact Out.plainL (by simp only [Tryz.results184]; rfl) (by simp only [az_, bc_, go_sem, seval, a4_, aw_] <;> (split <;> rfl)) (by simp only [bb_, go_sem, seval, a4_, aw_] <;> (simp at h17; rw [T1_ h17, if_pos (by simpa using hI)]; simp [peel, leV, be_, bo_, T1_, h17])) (by simp only [go_sem, seval, a4_, aw_])
theorem ain_ (l : List Str) (hl : l.length < 4611686018427387904) : ACall En 230 [.sl false (bo_ l)] [] [.i .i64 (cu_ l bw_)] [] := by
 refine aj_ (fn := Tryz.f230) [] Tryz.func230 rfl rfl (by simp) fun C => ?_
 rw [ay_]
 simp only [Tryz.ntmps230, T7_, List.length_nil, Nat.reduceAdd, Nat.reduceSub, List.replicate_succ, List.replicate_zero, List.cons_append, List.nil_append, bu_]
 refine .seq (.rgn [] (by simp only [go_sem, seval, ab_, aa_]; rfl) ?_ ?_)
 ·first | trivial | simp
 refine .seq (.seq (.rgn [] (by simp only [go_sem, seval, ab_, aa_]; rfl) ?_ ?_))
 ·first | trivial | simp
 refine .block (.loopK (fun k : Nat => ⟨[.sl false (bo_ l), .no, .no, .i .i64 k, .no, .no, .no, .no, .no, .no, .no, .no, .no, .no, .no, .no], bh_ [], us []⟩) (fun k : Nat => k ≤ l.length ∧ ∀ x ∈ l.take k, x ≠ bw_) (fun k : Nat => l.length - k) (0) ?_ ?_ (fun k hI => ?_))
 ·simp
 ·exact Can.weak (Weak.lit (by simp only [go_sem, seval, ab_, aa_, ar_, leV, ap_, aq_, V.inn, us, T9_, Ta_] <;> (simp)) (by simp only [go_sem, seval, ab_, aa_, ar_, leV, ap_, aq_, V.inn, us, T9_, Ta_]) (by simp only [go_sem, seval, ab_, aa_, ar_, leV, ap_, aq_, V.inn, us, T9_, Ta_]))
 refine .seq (.seq (.rgn [] (by simp only [go_sem, seval, ab_, aa_]; rfl) ?_ ?_))
 ·first | trivial | simp
 refine .condB (by simp only [go_sem, seval, ab_, aa_]; rfl) (by simp only [go_sem, seval, ab_, aa_]) (fun h7 => ?_) (fun h7 => ?_)
 ·refine .skip (.seq (.block (.seq (.rgn [] (by simp only [go_sem, seval, ab_, aa_, cc_ (show k < l.length by simpa using h7)]; rfl) ?_ ?_))))
  ·simp at h7; simp [ab_, h7]
  refine .condB (by simp only [go_sem, seval, ab_, aa_]; rfl) (by simp only [go_sem, seval, ab_, aa_]) (fun h14 => ?_) (fun h14 => ?_)
  ·refine .seq (.rgn [] (by simp only [go_sem, seval, ab_, aa_]; rfl) ?_ ?_)
   ·first | trivial | simp
   refine .ret ⟨.inr rfl, ?_⟩
   exact Out.plain (by simp only [Tryz.results230]; rfl) (by simp only [az_, bc_, go_sem, seval, ab_, aa_] <;> (split <;> rfl)) (by simp only [bb_, go_sem, seval, ab_, aa_] <;> (simp at h7; obtain ⟨g1, g2⟩ := uz_ h7 hI.2 (eq_of_beq h14); unfold cu_; rw [if_pos g1, g2])) (by simp only [go_sem, seval, ab_, aa_])
  ·refine .skip (.rgn [] (by simp only [go_sem, seval, ab_, aa_]; rfl) ?_ ?_)
   ·first | trivial | simp
   refine Exists.intro (k + 1) ⟨?_, ?_, ?_⟩
   ·simp at h7; refine ⟨by omega, fun x hx => ?_⟩; rw [List.take_add_one, List.mem_append, T6_ h7] at hx; rcases hx with hx | hx; exact hI.2 x hx; simp at hx; subst hx; simp [T8_, T6_ h7] at h14; exact h14
   ·simp at h7; omega
   exact Can.weak (Weak.lit (by simp only [go_sem, seval, ab_, aa_, ar_, leV, ap_, aq_, V.inn, us, T9_, Ta_] <;> (rw [bi_ (by omega) (by omega)]; simp)) (by simp only [go_sem, seval, ab_, aa_, ar_, leV, ap_, aq_, V.inn, us, T9_, Ta_]) (by simp only [go_sem, seval, ab_, aa_, ar_, leV, ap_, aq_, V.inn, us, T9_, Ta_]))
 ·refine .exit (.seq (.rgn [] (by simp only [go_sem, seval, ab_, aa_]; rfl) ?_ ?_))
  ·first | trivial | simp
  refine .ret ⟨.inr rfl, ?_⟩
  exact Out.plain (by simp only [Tryz.results230]; rfl) (by simp only [az_, bc_, go_sem, seval, ab_, aa_] <;> (split <;> rfl)) (by simp only [bb_, go_sem, seval, ab_, aa_] <;> (simp at h7; have : ¬ bw_ ∈ l := fun hm => hI.2 bw_ (by rw [T1_ h7]; exact hm) rfl; simp [cu_, this])) (by simp only [go_sem, seval, ab_, aa_])
end
section
set_option maxRecDepth 100000
set_option maxHeartbeats 8000000
theorem tg_ (w : List Str) (k : Nat) (c : Bool) (hc : c = true → k < w.length) : (c = true → c = true ∧ (k : Int) < w.length ∧ ((bo_ w).getD k []).length = 1) ∧ (c = true → (c = true ∧ 1 ≤ ((bo_ w).getD k []).length) ∧ ({ v := ((bo_ w).getD k []).getD 0 .no } : Eff) = { v := .s (w.getD k []) }) := by
 have e := fun h => cc_ (l := w) (hc h)
 exact ⟨fun h => ⟨h, by have := hc h; omega, by rw [e h]; rfl⟩, fun h => ⟨⟨h, by rw [e h]; exact Nat.le_refl _⟩, by rw [e h]; rfl⟩⟩
theorem qk_ {w : List Str} (h : ((w.length : Int) == 0) = false) : 0 < w.length := by
 rw [beq_eq_false_iff_ne] at h; omega
theorem sk_ {w : List Str} {b : Bool} (h : (w.getD 0 [] == [108, 101, 116] && decide ((w.length : Int) > 5) && w.getD 2 [] == [58] && w.getD 4 [] == [61]) = b) : (b = true ↔ (w.getD 0 [] = hh_ ∧ 5 < w.length ∧ w.getD 2 [] = cb_ ∧ w.getD 4 [] = wEq)) := by
 rw [← h]
 simp only [T5_, beq_iff_eq, T3_, hh_, cb_, wEq, and_assoc]
 constructor
 ·rintro ⟨a, b, c, d⟩; exact ⟨a, by omega, c, d⟩
 ·rintro ⟨a, b, c, d⟩; exact ⟨a, by omega, c, d⟩
theorem sx_ {w : List Str} {b : Bool} (h : (w.getD 0 [] == [119, 104, 101, 110] && decide (cu_ w [115, 97, 121] > 0)) = b) : (b = true ↔ (w.getD 0 [] = di_ ∧ 0 < cu_ w bw_)) := by
 rw [← h]
 simp only [T5_, beq_iff_eq, T3_, di_, bw_]
 try exact Iff.rfl
theorem agc_ (w : List Str) (hw : smW w) (hl : w.length ≤ 100000) : ACall En 185 [.sl false (bo_ w)] [] [.ag (sC (es_ w).1), .b (es_ w).2] [] := by
 have hs := sz_ w bw_
 have hss := ain_ w (by omega)
 simp only [bw_] at hs hss
 have hsw : IntKind.i64.wrap (cu_ w [115, 97, 121] + 1) = cu_ w [115, 97, 121] + 1 := bi_ (by omega) (by omega)
 have ht : 0 < cu_ w [115, 97, 121] → (cu_ w [115, 97, 121] + 1).toNat = (cu_ w [115, 97, 121]).toNat + 1 := fun h => by omega
 refine aj_ (fn := Tryz.f185) [] Tryz.func185 rfl rfl (by simp) fun C => ?_
 rw [ay_]
 simp only [Tryz.ntmps185, T7_, List.length_nil, Nat.reduceAdd, Nat.reduceSub, List.replicate_succ, List.replicate_zero, List.cons_append, List.nil_append, bu_]
 refine .seq (.rgn [] (by simp only [go_sem, seval, asO, ab_, aa_, a2_, a1_, bw_, hsw, a9_, bf_]; rfl) ?_ ?_)
 ·(first | trivial | (simp; done) | (simp [a7_]; done) | (simp [a7_]; omega))
 refine .seq (.rgn [] (by simp only [go_sem, seval, asO, ab_, aa_, a2_, a1_, bw_, hsw, a9_, bf_]; rfl) ?_ ?_)
 ·(first | trivial | (simp; done) | (simp [a7_]; done) | (simp [a7_]; omega))
 refine .seq (.block (.seq (.rgn [] (by simp only [go_sem, seval, asO, ab_, aa_, a2_, a1_, bw_, hsw, a9_, bf_]; rfl) ?_ ?_)))
 ·(first | trivial | (simp; done) | (simp [a7_]; done) | (simp [a7_]; omega))
 refine .condB (by simp only [go_sem, seval, asO, ab_, aa_, a2_, a1_, bw_, hsw, a9_, bf_]; rfl) (by simp only [go_sem, seval, asO, ab_, aa_, a2_, a1_, bw_, hsw, a9_, bf_]) (fun h15 => ?_) (fun h15 => ?_)
 ·refine .seq (.rgn [] (by simp only [go_sem, seval, asO, ab_, aa_, a2_, a1_, bw_, hsw, a9_, bf_]; rfl) ?_ ?_)
  ·(first | trivial | (simp; done) | (simp [a7_]; done) | (simp [a7_]; omega))
  refine .ret ⟨.inr rfl, ?_⟩
  exact Out.plainL (by simp only [Tryz.results185]; rfl) (by simp only [az_, bc_, go_sem, seval, asO, ab_, aa_, a2_, a1_, bw_, hsw, a9_, bf_] <;> (split <;> rfl)) (by simp only [bb_, go_sem, seval, asO, ab_, aa_, a2_, a1_, bw_, hsw, a9_, bf_] <;> ((have e : es_ w = (S0, true) := (by unfold es_; rw [if_pos (by simpa using h15)])); rw [e, ag_]; simp [les, leV, ler, be_, gx_, gw_, gt_, cq_, de_, S0])) (by simp only [go_sem, seval, asO, ab_, aa_, a2_, a1_, bw_, hsw, a9_, bf_])
 ·refine .seq (.rgnS [33, 39] [asO En { v := .s (w.getD 2 []) }, asO En { v := .s (w.getD 4 []) }] (by simp only [go_sem, seval, asO, ab_, aa_, a2_, a1_, bw_, hsw, a9_, bf_, cc_ (qk_ h15)]; rfl) ?_ ?_)
  ·have k1 : (w.getD 0 [] == [108, 101, 116] && decide ((w.length : Int) > 5)) = true → 2 < w.length := (fun h => by simp only [T5_, T3_] at h; omega); have k2 : (w.getD 0 [] == [108, 101, 116] && decide ((w.length : Int) > 5) && w.getD 2 [] == [58]) = true → 4 < w.length := (fun h => by simp only [T5_, T3_] at h; omega); exact ⟨⟨⟨⟨by have := qk_ h15; omega, (tg_ w 2 _ k1).1⟩, (tg_ w 2 _ k1).2⟩, (tg_ w 4 _ k2).1⟩, (tg_ w 4 _ k2).2⟩
  refine .condB (by simp only [go_sem, seval, asO, ab_, aa_, a2_, a1_, bw_, hsw, a9_, bf_]; rfl) (by simp only [go_sem, seval, asO, ab_, aa_, a2_, a1_, bw_, hsw, a9_, bf_]) (fun h20 => ?_) (fun h20 => ?_)
  ·refine .seq (.rgn [a8_ (hj_ (w.drop 5) (cz_ hw 5) (by simp; omega))] (by simp only [go_sem, seval, asO, ab_, aa_, a2_, a1_, bw_, hsw, a9_, bf_]; rfl) ?_ ?_)
   ·have h5 := ((sk_ h20).1 rfl).2.1; refine ⟨⟨by omega, .inr (of_eq_true (a7_ w))⟩, ?_⟩; rw [List.take_length]; exact be_ _
   refine .seq (.rgnD [] enM (by simp only [go_sem, seval, asO, ab_, aa_, a2_, a1_, bw_, hsw, a9_, bf_, cc_ (show 1 < w.length by simp at h20; omega), cc_ (show 3 < w.length by simp at h20; omega)]; rfl) (by rfl) ?_ ?_)
   ·have h5 := ((sk_ h20).1 rfl).2.1; exact ⟨by omega, rfl⟩
   refine .ret ⟨.inr rfl, ?_⟩
   exact Out.plainL (by simp only [Tryz.results185]; rfl) (by simp only [az_, bc_, go_sem, seval, asO, ab_, aa_, a2_, a1_, bw_, hsw, a9_, bf_] <;> (split <;> rfl)) (by simp only [bb_, go_sem, seval, asO, ab_, aa_, a2_, a1_, bw_, hsw, a9_, bf_] <;> ((have e : es_ w = (⟨1, w.getD 1 [], w.getD 3 [], ex (w.drop 5), E0⟩, kt_ (w.drop 5)) := (by have := qk_ h15; unfold es_; rw [if_neg (by omega), if_pos ((sk_ h20).1 rfl)]; rfl)); rw [e, ag_]; simp [les, leV, ler, be_, gx_, gw_, gt_, cq_, de_, kt_])) (by simp only [go_sem, seval, asO, ab_, aa_, a2_, a1_, bw_, hsw, a9_, bf_])
  ·refine .seq (.rgn [] (by simp only [go_sem, seval, asO, ab_, aa_, a2_, a1_, bw_, hsw, a9_, bf_, cc_ (qk_ h15)]; rfl) ?_ ?_)
   ·have := qk_ h15; omega
   refine .condB (by simp only [go_sem, seval, asO, ab_, aa_, a2_, a1_, bw_, hsw, a9_, bf_]; rfl) (by simp only [go_sem, seval, asO, ab_, aa_, a2_, a1_, bw_, hsw, a9_, bf_]) (fun h57 => ?_) (fun h57 => ?_)
   ·refine .seq (.rgn [a8_ (hj_ (w.drop 1) (cz_ hw 1) (by simp; omega))] (by simp only [go_sem, seval, asO, ab_, aa_, a2_, a1_, bw_, hsw, a9_, bf_]; rfl) ?_ ?_)
    ·have h5 := qk_ h15; refine ⟨⟨by omega, .inr (of_eq_true (a7_ w))⟩, ?_⟩; rw [List.take_length]; exact be_ _
    refine .seq (.rgn [] (by simp only [go_sem, seval, asO, ab_, aa_, a2_, a1_, bw_, hsw, a9_, bf_]; rfl) ?_ ?_)
    ·(first | trivial | (simp; done) | (simp [a7_]; done) | (simp [a7_]; omega))
    refine .ret ⟨.inr rfl, ?_⟩
    exact Out.plainL (by simp only [Tryz.results185]; rfl) (by simp only [az_, bc_, go_sem, seval, asO, ab_, aa_, a2_, a1_, bw_, hsw, a9_, bf_] <;> (split <;> rfl)) (by simp only [bb_, go_sem, seval, asO, ab_, aa_, a2_, a1_, bw_, hsw, a9_, bf_] <;> ((have e : es_ w = (⟨2, [], [], ex (w.drop 1), E0⟩, kt_ (w.drop 1)) := (by have := qk_ h15; unfold es_; rw [if_neg (by omega), if_neg (fun h => absurd ((sk_ h20).2 h) (by decide)), if_pos (by simpa [bw_] using h57)]; rfl)); rw [e, ag_]; simp [les, leV, ler, be_, gx_, gw_, gt_, cq_, de_, kt_])) (by simp only [go_sem, seval, asO, ab_, aa_, a2_, a1_, bw_, hsw, a9_, bf_])
   ·refine .seq (.rgn [a8_ hss] (by simp only [go_sem, seval, asO, ab_, aa_, a2_, a1_, bw_, hsw, a9_, bf_, cc_ (qk_ h15)]; rfl) ?_ ?_)
    ·have := qk_ h15; omega
    refine .condB (by simp only [go_sem, seval, asO, ab_, aa_, a2_, a1_, bw_, hsw, a9_, bf_]; rfl) (by simp only [go_sem, seval, asO, ab_, aa_, a2_, a1_, bw_, hsw, a9_, bf_]) (fun h71 => ?_) (fun h71 => ?_)
    ·refine .seq (.rgn [a8_ hss] (by simp only [go_sem, seval, asO, ab_, aa_, a2_, a1_, bw_, hsw, a9_, bf_]; rfl) ?_ ?_)
     ·(first | trivial | (simp; done) | (simp [a7_]; done) | (simp [a7_]; omega))
     refine .seq (.rgn [a8_ (hj_ ((w.take (cu_ w bw_).toNat).drop 1) (cz_ (hy_ hw _) 1) (by simp; omega))] (by simp only [go_sem, seval, asO, ab_, aa_, a2_, a1_, bw_, hsw, a9_, bf_]; rfl) ?_ ?_)
     ·have h5 := ((sx_ h71).1 rfl).2; simp only [bw_] at h5; exact ⟨⟨by omega, by omega, by omega, fun h => absurd rfl h⟩, .inr (of_eq_true (a7_ w))⟩
     refine .seq (.rgn [a8_ (hj_ (w.drop ((cu_ w bw_).toNat + 1)) (cz_ hw _) (by simp; omega))] (by simp only [go_sem, seval, asO, ab_, aa_, a2_, a1_, bw_, hsw, a9_, bf_]; rfl) ?_ ?_)
     ·have h5 := ((sx_ h71).1 rfl).2; simp only [bw_] at h5; refine ⟨⟨by omega, .inr (of_eq_true (a7_ w))⟩, ?_⟩; rw [List.take_length, ht h5]; exact be_ _
     refine .seq (.rgn [] (by simp only [go_sem, seval, asO, ab_, aa_, a2_, a1_, bw_, hsw, a9_, bf_]; rfl) ?_ ?_)
     ·(first | trivial | (simp; done) | (simp [a7_]; done) | (simp [a7_]; omega))
     refine .ret ⟨.inr rfl, ?_⟩
     exact Out.plainL (by simp only [Tryz.results185]; rfl) (by simp only [az_, bc_, go_sem, seval, asO, ab_, aa_, a2_, a1_, bw_, hsw, a9_, bf_] <;> (split <;> rfl)) (by simp only [bb_, go_sem, seval, asO, ab_, aa_, a2_, a1_, bw_, hsw, a9_, bf_] <;> ((have e : es_ w = (⟨3, [], [], ex ((w.take (cu_ w bw_).toNat).drop 1), ex (w.drop ((cu_ w bw_).toNat + 1))⟩, kt_ ((w.take (cu_ w bw_).toNat).drop 1) && kt_ (w.drop ((cu_ w bw_).toNat + 1))) := (by have := qk_ h15; unfold es_; rw [if_neg (by omega), if_neg (fun h => absurd ((sk_ h20).2 h) (by decide)), if_neg (by simpa [bw_] using h57), if_pos ((sx_ h71).1 rfl)]; rfl)); rw [e, ag_]; simp [bw_, les, leV, ler, be_, gx_, gw_, gt_, cq_, de_, kt_])) (by simp only [go_sem, seval, asO, ab_, aa_, a2_, a1_, bw_, hsw, a9_, bf_])
    ·refine .skip (.seq (.rgn [] (by simp only [go_sem, seval, asO, ab_, aa_, a2_, a1_, bw_, hsw, a9_, bf_]; rfl) ?_ ?_))
     ·(first | trivial | (simp; done) | (simp [a7_]; done) | (simp [a7_]; omega))
     refine .ret ⟨.inr rfl, ?_⟩
     exact Out.plainL (by simp only [Tryz.results185]; rfl) (by simp only [az_, bc_, go_sem, seval, asO, ab_, aa_, a2_, a1_, bw_, hsw, a9_, bf_] <;> (split <;> rfl)) (by simp only [bb_, go_sem, seval, asO, ab_, aa_, a2_, a1_, bw_, hsw, a9_, bf_] <;> ((have e : es_ w = (S0, false) := (by have := qk_ h15; unfold es_; rw [if_neg (by omega), if_neg (fun h => absurd ((sk_ h20).2 h) (by decide)), if_neg (by simpa [bw_] using h57), if_neg (fun h => absurd ((sx_ h71).2 h) (by decide))])); rw [e, ag_]; simp [les, leV, ler, be_, gx_, gw_, gt_, cq_, de_, S0])) (by simp only [go_sem, seval, asO, ab_, aa_, a2_, a1_, bw_, hsw, a9_, bf_])
theorem ng_ {line : Str} (h : ¬ ((b4_ line).isSome = true ∧ (es_ (ck_ line)).2 = true ∧ sok (es_ (ck_ line)).1 = true ∧ bz_ (sw' (es_ (ck_ line)).1) = line)) : ku_ line = none := by
 unfold ku_ ck_ at *
 cases ht : b4_ line with
 | none => rfl
 | some ts =>
  rw [ht] at h
  simp only [Option.getD_some] at h
  dsimp only
  rw [if_neg]
  exact fun q => h ⟨rfl, q⟩
theorem vp_ {line : Str} (h : (b4_ line).isSome = true) (h0 : (es_ (ck_ line)).2 = true) (h1 : sok (es_ (ck_ line)).1 = true) (h2 : bz_ (sw' (es_ (ck_ line)).1) = line) : ku_ line = some (es_ (ck_ line)).1 := by
 unfold ku_ ck_ at *
 cases ht : b4_ line with
 | none => rw [ht] at h; cases h
 | some ts =>
  rw [ht] at h0 h1 h2
  simp only [Option.getD_some] at h0 h1 h2 ⊢
  rw [if_pos ⟨h0, h1, h2⟩]
theorem aiv_ {w : List Str} (h : smW w) : ea_ (es_ w).1 = true := by
 have g := tp_ h
 have e := fun k => q5_ (cz_ h k)
 have e0 : sm E0 = true := by decide
 unfold es_
 split
 ·decide
 ·split
  ·simp only [ea_, e, e0, Bool.and_true, T5_, T3_]; have := g 1; have := g 3; omega
  ·split
   ·simp only [ea_, e, e0, Bool.and_true]; rfl
   ·split
    ·simp only [ea_, e, q5_ (cz_ (hy_ h _) 1), Bool.and_true]; rfl
    ·decide
theorem w9_ (line : Str) (hl : line.length ≤ 281474976710656) : ACall En 129 [.s line] [] [.ag (sC ((cw_ line).getD S0)), .b (cw_ line).isSome] [] := by
 obtain ⟨w1, w2⟩ := lt_ line
 have hs := aiv_ w1
 rw [ad8_]
 refine aj_ (fn := Tryz.f129) [] Tryz.func129 rfl rfl (by simp) fun C => ?_
 rw [ay_]
 simp only [Tryz.ntmps129, T7_, List.length_nil, Nat.reduceAdd, Nat.reduceSub, List.replicate_succ, List.replicate_zero, List.cons_append, List.nil_append, bu_]
 refine .seq (.rgn [] (by simp only [go_sem, seval, aa_, a9_, ag_]; rfl) ?_ ?_)
 ·first | trivial | simp
 refine .seq (.rgn [a8_ (add_ line hl)] (by simp only [go_sem, seval, aa_, a9_, ag_]; rfl) ?_ ?_)
 ·first | trivial | simp
 refine .seq (.seq (.rgn [] (by simp only [go_sem, seval, aa_, a9_, ag_]; rfl) ?_ ?_))
 ·first | trivial | simp
 refine .condB (by simp only [go_sem, seval, aa_, a9_, ag_]; rfl) (by simp only [go_sem, seval, aa_, a9_, ag_]) (fun h14 => ?_) (fun h14 => ?_)
 ·refine .seq (.rgn [] (by simp only [go_sem, seval, aa_, a9_, ag_]; rfl) ?_ ?_)
  ·first | trivial | simp
  refine .ret ⟨.inr rfl, ?_⟩
  exact Out.plainL (by simp only [Tryz.results129]; rfl) (by simp only [az_, bc_, go_sem, seval, aa_, a9_, ag_] <;> (split <;> rfl)) (by simp only [bb_, go_sem, seval, aa_, a9_, ag_] <;> (rw [ng_ (fun q => by rw [q.1] at h14; simp at h14)]; simp [S0, les, leV, ler, be_, gx_, gw_, gt_, cq_, de_])) (by simp only [go_sem, seval, aa_, a9_, ag_])
 ·refine .skip (.seq (.rgn [a8_ (agc_ (ck_ line) w1 (by omega))] (by simp only [go_sem, seval, aa_, a9_, ag_]; rfl) ?_ ?_))
  ·first | trivial | simp
  refine .seq (.seq (.rgn [a8_ (m3_ (es_ (ck_ line)).1 hs), ce_ (sok (es_ (ck_ line)).1 = true) (fun h => h6_ (es_ (ck_ line)).1 (dk_ h) hs), ce_ (sok (es_ (ck_ line)).1 = true) (fun h => g7_ (sw' (es_ (ck_ line)).1) (by have := (k5_ (dk_ h)).1; omega) (by have := li_ (dk_ h); omega))] (by simp only [go_sem, seval, aa_, a9_, ag_]; rfl) ?_ ?_))
  ·first | trivial | simp
  refine .condB (by simp only [go_sem, seval, aa_, a9_, ag_]; rfl) (by simp only [go_sem, seval, aa_, a9_, ag_]) (fun h34 => ?_) (fun h34 => ?_)
  ·refine .seq (.rgn [] (by simp only [go_sem, seval, aa_, a9_, ag_]; rfl) ?_ ?_)
   ·first | trivial | simp
   refine .ret ⟨.inr rfl, ?_⟩
   exact Out.plainL (by simp only [Tryz.results129]; rfl) (by simp only [az_, bc_, go_sem, seval, aa_, a9_, ag_] <;> (split <;> rfl)) (by simp only [bb_, go_sem, seval, aa_, a9_, ag_] <;> (rw [ng_ (by intro q; simp [q.1, q.2.1, q.2.2] at h34)]; simp [S0, les, leV, ler, be_, gx_, gw_, gt_, cq_, de_])) (by simp only [go_sem, seval, aa_, a9_, ag_])
  ·refine .skip (.seq (.rgn [] (by simp only [go_sem, seval, aa_, a9_, ag_]; rfl) ?_ ?_))
   ·first | trivial | simp
   refine .ret ⟨.inr rfl, ?_⟩
   exact Out.plainL (by simp only [Tryz.results129]; rfl) (by simp only [az_, bc_, go_sem, seval, aa_, a9_, ag_] <;> (split <;> rfl)) (by simp only [bb_, go_sem, seval, aa_, a9_, ag_] <;> (rw [vp_ (by simp at h14; exact h14) (by simp at h34; exact h34.1.1) (by simp at h34; exact h34.1.2) (by simp at h34; exact h34.2)]; simp [les, leV, ler, be_])) (by simp only [go_sem, seval, aa_, a9_, ag_])
end
section
set_option maxRecDepth 100000
set_option maxHeartbeats 8000000
end
end Go.Proofs.YtcigkafioinfoaaGreatDoor
