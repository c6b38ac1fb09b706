/- What the exact laws do with expressions: size, copies, sameness. Conditions: none. -/
import Derived.Test.YtcigkafioinfoaaGreatDoorKl
import Derived.Test.YtcigkafioinfoaaGreatDoorKk
set_option linter.unusedVariables false
set_option linter.unusedSimpArgs false
namespace Go.Proofs.YtcigkafioinfoaaGreatDoor
section
set_option maxRecDepth 100000
set_option maxHeartbeats 4000000
mutual
def bd : E → Bool
 | .mk _ _ s kids => decide (s.length ≤ 9223372036854775807) && decide (kids.length ≤ 9223372036854775807) && bds kids
def bds : List E → Bool
 | [] => true
 | e :: r => bd e && bds r
end
theorem xj_ : ∀ {l : List E}, bds l = true → ∀ e ∈ l, bd e = true
 | [], _, e, he => by cases he
 | x :: r, h, e, he => by
  simp only [bds, T5_] at h
  rcases List.mem_cons.1 he with rfl | he
  ·exact h.1
  ·exact xj_ h.2 e he
theorem afg_ {e : E} (h : bd e = true) : e.s.length ≤ 9223372036854775807 ∧ e.kids.length ≤ 9223372036854775807 ∧ bds e.kids = true := by
 cases e; simp only [bd, T5_, T3_] at h; exact ⟨h.1.1, h.1.2, h.2⟩
mutual
def szE : E → Int → Int
 | .mk _ _ s kids, l => if l - s.length < 0 then -1 else if l - s.length - kids.length < 0 then -1 else szL kids (l - s.length - kids.length)
def szL : List E → Int → Int
 | [], l => l
 | e :: r, l => if szE e l < 0 then -1 else szL r (szE e l)
end
theorem ahc_ (e : E) (l : Int) : szE e l = if l - e.s.length < 0 then -1 else if l - e.s.length - e.kids.length < 0 then -1 else szL e.kids (l - e.s.length - e.kids.length) := by cases e; simp only [szE, E.s, E.kids]; rfl
mutual
theorem id_ : ∀ (e : E) (l : Int), -1 ≤ l → -1 ≤ szE e l ∧ szE e l ≤ l
 | .mk k n s kids, l, hl => by
  simp only [szE]
  split
  ·omega
  ·split
   ·omega
   ·have := aaw_ kids (l - s.length - kids.length) (by omega)
    omega
theorem aaw_ : ∀ (r : List E) (l : Int), -1 ≤ l → -1 ≤ szL r l ∧ szL r l ≤ l
 | [], l, hl => by simp only [szL]; omega
 | e :: r, l, hl => by
  simp only [szL]
  have h1 := id_ e l hl
  split
  ·omega
  ·have := aaw_ r (szE e l) (by omega)
   omega
end
mutual
theorem vi_ : ∀ (e : E) (l : Int), l ≤ 1048576 → 0 ≤ szE e l → sm e = true
 | .mk k n s kids, l, hl, h => by
  simp only [szE] at h
  split at h
  ·omega
  ·split at h
   ·omega
   ·have := aai_ kids _ (by omega) h
    simp only [sm, T5_, T3_]
    exact ⟨⟨by omega, by omega⟩, this⟩
theorem aai_ : ∀ (r : List E) (l : Int), l ≤ 1048576 → 0 ≤ szL r l → sms r = true
 | [], _, _, _ => by simp only [sms]
 | e :: r, l, hl, h => by
  simp only [szL] at h
  split at h
  ·omega
  ·by_cases h0 : -1 ≤ l
   ·have h1 := id_ e l h0
    simp only [sms, T5_]
    exact ⟨vi_ e l hl (by omega), aai_ r _ (by omega) h⟩
   ·have : szE e l = -1 := by cases e; simp only [szE]; rw [if_pos (by omega)]
    omega
end
theorem uo_ {kids : List E} {k : Nat} (h : k < kids.length) (l : Int) : szL (kids.drop k) l = if szE (kids.getD k E0) l < 0 then -1 else szL (kids.drop (k + 1)) (szE (kids.getD k E0) l) := by
 rw [List.drop_eq_getElem_cons h, gt_ h]; simp only [szL]
theorem ady_ {kids : List E} {k : Nat} (h : kids.length ≤ k) (l : Int) : szL (kids.drop k) l = l := by rw [List.drop_of_length_le h]; simp only [szL]
def szLl (l : List E) (q : Int) : Int := if q - l.length < 0 then -1 else szL l (q - l.length)
def SzA (e : E) : Prop := ∀ l : Int, 0 ≤ l → l ≤ 1048576 → ACall En 80 [.ag (eC e), .i .i64 l] [] [.i .i64 (szE e l)] []
theorem yx_ (kids : List E) (ih : ∀ e ∈ kids, SzA e) (hk : kids.length ≤ 9223372036854775807) (l : Int) (h1 : 0 ≤ l) (h2 : l ≤ 1048576) : ACall En 143 [.sl false (eR kids), .i .i64 l] [] [.i .i64 (szLl kids l)] [] := by
 have hw : IntKind.i64.wrap (l - kids.length) = l - kids.length := bv_ (by omega) (by omega)
 refine an_ (fn := Tryz.f143) [] Tryz.func143 rfl rfl (by simp) fun C => ?_
 rw [bb_]
 simp only [Tryz.ntmps143, T7_, List.length_nil, Nat.reduceAdd, Nat.reduceSub, List.replicate_succ, List.replicate_zero, List.cons_append, List.nil_append, bu_]
 refine .seq (.rgn [] (by simp only [go_sem, seval, hw]; rfl) ?_ ?_)
 ·first | trivial | simp
 refine .seq (.rgn [] (by simp only [go_sem, seval, hw]; rfl) ?_ ?_)
 ·first | trivial | simp
 refine .seq (.seq (.rgn [] (by simp only [go_sem, seval, hw]; rfl) ?_ ?_))
 ·first | trivial | simp
 refine .condB (by simp only [go_sem, seval, hw]; rfl) (by simp only [go_sem, seval, hw]) (fun h11 => ?_) (fun h11 => ?_)
 ·refine .seq (.rgn [] (by simp only [go_sem, seval, hw]; rfl) ?_ ?_)
  ·first | trivial | simp
  refine .ret ⟨.inr rfl, ?_⟩
  exact Out.plain (by simp only [Tryz.results143]; rfl) (by simp only [ba_, bs_, go_sem, seval, hw] <;> (split <;> rfl)) (by simp only [bq_, go_sem, seval, hw] <;> (simp at h11; simp [szLl, h11])) (by simp only [go_sem, seval, hw])
 ·refine .skip (.seq (.seq (.rgn [] (by simp only [go_sem, seval, hw]; rfl) ?_ ?_)))
  ·first | trivial | simp
  refine .block (.loopK (fun k : Nat × Int => ⟨[.sl false (eR kids), .i .i64 k.2, .no, .no, .no, .i .i64 k.1, .no, .no, .no, .no, .no, .no, .no, .no, .no, .no, .no, .no, .no, .no, .no, .no, .no, .no, .no, .no, .no], bf_ [], us []⟩) (fun k : Nat × Int => k.1 ≤ kids.length ∧ 0 ≤ k.2 ∧ k.2 ≤ 1048576 ∧ szLl kids l = szL (kids.drop k.1) k.2) (fun k : Nat × Int => kids.length - k.1) ((0, l - kids.length)) ?_ ?_ (fun k hI => ?_))
  ·simp at h11; simp [szLl, show ¬ (l - (kids.length : Int) < 0) by omega]; omega
  ·exact Can.weak (Weak.lit (by simp only [go_sem, seval, hw, a2_, leV, az_, ay_, V.inn, us, T9_, Ta_] <;> (simp)) (by simp only [go_sem, seval, hw, a2_, leV, az_, ay_, V.inn, us, T9_, Ta_]) (by simp only [go_sem, seval, hw, a2_, leV, az_, ay_, V.inn, us, T9_, Ta_]))
  refine .seq (.seq (.rgn [] (by simp only [go_sem, seval, hw]; rfl) ?_ ?_))
  ·first | trivial | simp
  refine .condB (by simp only [go_sem, seval, hw]; rfl) (by simp only [go_sem, seval, hw]) (fun h15 => ?_) (fun h15 => ?_)
  ·refine .skip (.seq (.block (.seq (.rgn [br_ (ih (kids.getD k.1 E0) (b2_ (by simpa using h15)) k.2 (by omega) (by omega))] (by simp only [go_sem, seval, hw, c7_ (show k.1 < kids.length by simpa using h15)]; rfl) ?_ ?_))))
   ·simp at h15; simp; exact h15
   refine .seq (.rgn [] (by simp only [go_sem, seval, hw]; rfl) ?_ ?_)
   ·first | trivial | simp
   refine .condB (by simp only [go_sem, seval, hw]; rfl) (by simp only [go_sem, seval, hw]) (fun h25 => ?_) (fun h25 => ?_)
   ·refine .seq (.rgn [] (by simp only [go_sem, seval, hw]; rfl) ?_ ?_)
    ·first | trivial | simp
    refine .ret ⟨.inr rfl, ?_⟩
    exact Out.plain (by simp only [Tryz.results143]; rfl) (by simp only [ba_, bs_, go_sem, seval, hw] <;> (split <;> rfl)) (by simp only [bq_, go_sem, seval, hw] <;> (simp at h15; simp only [T3_] at h25; have e1 := uo_ h15 k.2; rw [if_pos h25] at e1; rw [hI.2.2.2, e1])) (by simp only [go_sem, seval, hw])
   ·refine .skip (.rgn [] (by simp only [go_sem, seval, hw]; rfl) ?_ ?_)
    ·first | trivial | simp
    refine Exists.intro ((k.1 + 1, szE (kids.getD k.1 E0) k.2)) ⟨?_, ?_, ?_⟩
    ·simp at h15; simp only [T4_] at h25; have e1 := uo_ h15 k.2; have e2 := id_ (kids.getD k.1 E0) k.2 (by omega); rw [if_neg (by omega)] at e1; exact ⟨by dsimp only; omega, by dsimp only; omega, by dsimp only; omega, by rw [hI.2.2.2, e1]⟩
    ·simp at h15; simp; omega
    exact Can.weak (Weak.lit (by simp only [go_sem, seval, hw, a2_, leV, az_, ay_, V.inn, us, T9_, Ta_] <;> (rw [bv_ (by simp at h15; omega) (by simp at h15; omega)]; simp)) (by simp only [go_sem, seval, hw, a2_, leV, az_, ay_, V.inn, us, T9_, Ta_]) (by simp only [go_sem, seval, hw, a2_, leV, az_, ay_, V.inn, us, T9_, Ta_]))
  ·refine .exit (.seq (.rgn [] (by simp only [go_sem, seval, hw]; rfl) ?_ ?_))
   ·first | trivial | simp
   refine .ret ⟨.inr rfl, ?_⟩
   exact Out.plain (by simp only [Tryz.results143]; rfl) (by simp only [ba_, bs_, go_sem, seval, hw] <;> (split <;> rfl)) (by simp only [bq_, go_sem, seval, hw] <;> (simp at h15; rw [hI.2.2.2, ady_ h15])) (by simp only [go_sem, seval, hw])
theorem tv_ (e : E) : bd e = true → SzA e := by
 induction e using E.ind' with
 | h e ih =>
 intro hb l h1 h2
 obtain ⟨b1, b2, b3⟩ := afg_ hb
 have hw : IntKind.i64.wrap (l - e.s.length) = l - e.s.length := bv_ (by omega) (by omega)
 have hn : szE e l = if l - e.s.length < 0 then -1 else szLl e.kids (l - e.s.length) := by rw [ahc_]; rfl
 refine an_ (fn := Tryz.f80) [] Tryz.func80 rfl rfl (by simp) fun C => ?_
 rw [bb_]
 simp only [Tryz.ntmps80, T7_, List.length_nil, Nat.reduceAdd, Nat.reduceSub, List.replicate_succ, List.replicate_zero, List.cons_append, List.nil_append, bu_]
 refine .seq (.rgn [] (by simp only [go_sem, seval, hw, bm_]; rfl) ?_ ?_)
 ·first | trivial | simp
 refine .seq (.rgn [] (by simp only [go_sem, seval, hw, bm_]; rfl) ?_ ?_)
 ·first | trivial | simp
 refine .seq (.seq (.rgn [] (by simp only [go_sem, seval, hw, bm_]; rfl) ?_ ?_))
 ·first | trivial | simp
 refine .condB (by simp only [go_sem, seval, hw, bm_]; rfl) (by simp only [go_sem, seval, hw, bm_]) (fun h11 => ?_) (fun h11 => ?_)
 ·refine .seq (.rgn [] (by simp only [go_sem, seval, hw, bm_]; rfl) ?_ ?_)
  ·first | trivial | simp
  refine .ret ⟨.inr rfl, ?_⟩
  exact Out.plain (by simp only [Tryz.results80]; rfl) (by simp only [ba_, bs_, go_sem, seval, hw, bm_] <;> (split <;> rfl)) (by simp only [bq_, go_sem, seval, hw, bm_] <;> (simp at h11; rw [hn, if_pos h11])) (by simp only [go_sem, seval, hw, bm_])
 ·refine .skip (.seq (.rgn [dw_ (0 ≤ l - (e.s.length : Int)) (fun h => yx_ e.kids (fun x hx => ih x hx (xj_ b3 x hx)) b2 (l - e.s.length) h (by omega))] (by simp only [go_sem, seval, hw, bm_]; rfl) ?_ ?_))
  ·simp at h11; simp; omega
  refine .seq (.seq (.rgn [] (by simp only [go_sem, seval, hw, bm_]; rfl) ?_ ?_))
  ·first | trivial | simp
  refine .condB (by simp only [go_sem, seval, hw, bm_]; rfl) (by simp only [go_sem, seval, hw, bm_]) (fun h17 => ?_) (fun h17 => ?_)
  ·refine .seq (.rgn [] (by simp only [go_sem, seval, hw, bm_]; rfl) ?_ ?_)
   ·first | trivial | simp
   refine .ret ⟨.inr rfl, ?_⟩
   exact Out.plain (by simp only [Tryz.results80]; rfl) (by simp only [ba_, bs_, go_sem, seval, hw, bm_] <;> (split <;> rfl)) (by simp only [bq_, go_sem, seval, hw, bm_] <;> (simp at h11 h17; have := id_ e l (by omega); rw [hn, if_neg (by omega)] at this ⊢; congr 1; congr 1; omega)) (by simp only [go_sem, seval, hw, bm_])
  ·refine .skip (.seq (.rgn [] (by simp only [go_sem, seval, hw, bm_]; rfl) ?_ ?_))
   ·first | trivial | simp
   refine .ret ⟨.inr rfl, ?_⟩
   exact Out.plain (by simp only [Tryz.results80]; rfl) (by simp only [ba_, bs_, go_sem, seval, hw, bm_] <;> (split <;> rfl)) (by simp only [bq_, go_sem, seval, hw, bm_] <;> (simp at h11 h17; rw [hn, if_neg (by omega)])) (by simp only [go_sem, seval, hw, bm_])
theorem w8_ {l : List E} {k : Nat} (h : k < l.length) {z : List V} : (de_ (eR l) z k).set k (eC (l.getD k E0)) = de_ (eR l) z (k + 1) := by
 rw [← g8_ (by rw [fl_]; exact h), c7_ h]
def z4 : List V := [.i .i64 0, .i .i64 0, .s [], .sl true []]
theorem cw_ (l : List E) (k j : Nat) : ((de_ (eR l) z4 k).getD j []).drop 4 = [] := by
 rw [T8_]
 cases h : (de_ (eR l) z4 k)[j]? with
 | none => rfl
 | some r =>
  have hm := List.mem_of_getElem? h
  have : r.length = 4 := by
   rcases hp_ hm with hm | rfl
   ·exact rc_ r hm
   ·rfl
  simp only [Option.getD_some]; exact List.drop_of_length_le (by omega)
def ToA (e : E) : Prop := ACall En 86 [.ag (eC e)] [] [.ag (eC e)] []
theorem yk_ (kids : List E) (ih : ∀ e ∈ kids, ToA e) (hk : kids.length < 1099511627776) : ACall En 151 [.sl false (eR kids)] [] [.sl false (eR kids)] [] := by
 have hp : ∀ k, cz_ (de_ (eR kids) z4 k) = true := fun k => hu_ (f5_ _) rfl
 refine an_ (fn := Tryz.f151) [] Tryz.func151 rfl rfl (by simp) fun C => ?_
 rw [bb_]
 simp only [Tryz.ntmps151, T7_, List.length_nil, Nat.reduceAdd, Nat.reduceSub, List.replicate_succ, List.replicate_zero, List.cons_append, List.nil_append, bu_]
 refine .seq (.rgn [] (by simp only [go_sem, seval, hp, cw_, au_]; rfl) ?_ ?_)
 ·first | trivial | simp
 refine .seq (.rgn [] (by simp only [go_sem, seval, hp, cw_, au_]; rfl) ?_ ?_)
 ·simp; omega
 refine .seq (.seq (.rgn [] (by simp only [go_sem, seval, hp, cw_, au_]; rfl) ?_ ?_))
 ·first | trivial | simp
 refine .block (.loopK (fun k : Nat => ⟨[.sl false (eR kids), .no, .no, .ow 17 4 0 kids.length, .i .i64 k, .no, .no, .no, .no, .no, .no, .no, .no, .no, .no, .no, .no, .no, .no, .no, .no, .no, .no], bf_ [(17, ⟨33, 4, de_ (eR kids) z4 k⟩)], us [17]⟩) (fun k : Nat => k ≤ kids.length) (fun k : Nat => kids.length - k) (0) ?_ ?_ (fun k hI => ?_))
 ·simp
 ·exact Can.weak (Weak.lit (by simp only [go_sem, seval, hp, cw_, au_, a2_, leV, az_, ay_, V.inn, us, T9_, Ta_] <;> (simp)) (by simp only [go_sem, seval, hp, cw_, au_, a2_, leV, az_, ay_, V.inn, us, T9_, Ta_]) (by simp only [go_sem, seval, hp, cw_, au_, a2_, leV, az_, ay_, V.inn, us, T9_, Ta_] <;> (simp [gx_, z4, fl_])))
 refine .seq (.seq (.rgn [] (by simp only [go_sem, seval, hp, cw_, au_]; rfl) ?_ ?_))
 ·first | trivial | simp
 refine .condB (by simp only [go_sem, seval, hp, cw_, au_]; rfl) (by simp only [go_sem, seval, hp, cw_, au_]) (fun h11 => ?_) (fun h11 => ?_)
 ·refine .skip (.seq (.block (.rgn [br_ (ih (kids.getD k E0) (b2_ (by simpa using h11)))] (by simp only [go_sem, seval, hp, cw_, au_, c7_ (show k < kids.length by simpa using h11), w8_ (show k < kids.length by simpa using h11)]; rfl) ?_ ?_)))
  ·simp at h11; simp; omega
  refine .rgn [] (by simp only [go_sem, seval, hp, cw_, au_]; rfl) ?_ ?_
  ·first | trivial | simp
  refine Exists.intro (k + 1) ⟨?_, ?_, ?_⟩
  ·simp at h11; omega
  ·simp at h11; omega
  exact Can.weak (Weak.lit (by simp only [go_sem, seval, hp, cw_, au_, a2_, leV, az_, ay_, V.inn, us, T9_, Ta_] <;> (rw [bv_ (by simp at h11; omega) (by simp at h11; omega)]; simp)) (by simp only [go_sem, seval, hp, cw_, au_, a2_, leV, az_, ay_, V.inn, us, T9_, Ta_]) (by simp only [go_sem, seval, hp, cw_, au_, a2_, leV, az_, ay_, V.inn, us, T9_, Ta_] <;> (simp [bm_, ← w8_ (show k < kids.length by simpa using h11)])))
 ·refine .exit (.seq (.rgn [] (by simp only [go_sem, seval, hp, cw_, au_]; rfl) ?_ ?_))
  ·first | trivial | simp
  refine .frz 17 (by simp only [go_sem, seval, hp, cw_, au_]; rfl) (by simp only [go_sem, seval, hp, cw_, au_]) (by simp only [go_sem, seval, hp, cw_, au_]; rfl) (by simp only [go_sem, seval, hp, cw_, au_]; rfl) ?_
  refine .ret ⟨.inr rfl, ?_⟩
  exact Out.plain (by simp only [Tryz.results151]; rfl) (by simp only [ba_, bs_, go_sem, seval, hp, cw_, au_] <;> (split <;> rfl)) (by simp only [bq_, go_sem, seval, hp, cw_, au_] <;> (simp at h11; rw [g1_ (by simpa [fl_] using h11)]; simp [T1_, peel, fl_])) (by simp only [go_sem, seval, hp, cw_, au_])
theorem sv_ (e : E) : sm e = true → ToA e := by
 induction e using E.ind' with
 | h e ih =>
 intro hs
 obtain ⟨a1, a2, a3⟩ := d2_ hs
 refine an_ (fn := Tryz.f86) [] Tryz.func86 rfl rfl (by simp) fun C => ?_
 rw [bb_]
 simp only [Tryz.ntmps86, T7_, List.length_nil, Nat.reduceAdd, Nat.reduceSub, List.replicate_succ, List.replicate_zero, List.cons_append, List.nil_append, bu_]
 refine .seq (.rgn [] (by simp only [go_sem, seval, bm_]; rfl) ?_ ?_)
 ·first | trivial | simp
 refine .seq (.rgn [] (by simp only [go_sem, seval, bm_]; rfl) ?_ ?_)
 ·first | trivial | simp
 refine .seq (.rgn [] (by simp only [go_sem, seval, bm_]; rfl) ?_ ?_)
 ·first | trivial | simp
 refine .seq (.rgn [] (by simp only [go_sem, seval, bm_]; rfl) ?_ ?_)
 ·first | trivial | simp
 refine .seq (.rgn [] (by simp only [go_sem, seval, bm_]; rfl) ?_ ?_)
 ·first | trivial | simp
 refine .seq (.rgn [br_ (yk_ e.kids (fun x hx => ih x hx (c0_ a3 x hx)) (nb_ hs))] (by simp only [go_sem, seval, bm_]; rfl) ?_ ?_)
 ·first | trivial | simp
 refine .seq (.rgn [] (by simp only [go_sem, seval, bm_]; rfl) ?_ ?_)
 ·first | trivial | simp
 refine .ret ⟨.inr rfl, ?_⟩
 exact Out.plain (by simp only [Tryz.results86]; rfl) (by simp only [ba_, bs_, go_sem, seval, bm_] <;> (split <;> rfl)) (by simp only [bq_, go_sem, seval, bm_] <;> (rfl)) (by simp only [go_sem, seval, bm_])
def EqA (x : E) : Prop := ∀ y : E, sm y = true → ACall En 88 [.ag (eC x), .ag (eC y)] [] [.b (same x y)] []
theorem ye_ (xs ys : List E) (ih : ∀ e ∈ xs, EqA e) (hx : xs.length < 4611686018427387904) (hy : ys.length < 4611686018427387904) (hs : sms ys = true) : ACall En 156 [.sl false (eR xs), .sl false (eR ys)] [] [.b (same.sameL xs ys)] [] := by
 rw [g0_]
 refine an_ (fn := Tryz.f156) [] Tryz.func156 rfl rfl (by simp) fun C => ?_
 rw [bb_]
 simp only [Tryz.ntmps156, T7_, List.length_nil, Nat.reduceAdd, Nat.reduceSub, List.replicate_succ, List.replicate_zero, List.cons_append, List.nil_append, bu_]
 refine .seq (.rgn [] (by simp only [go_sem, seval]; rfl) ?_ ?_)
 ·first | trivial | simp
 refine .seq (.seq (.rgn [] (by simp only [go_sem, seval]; rfl) ?_ ?_))
 ·first | trivial | simp
 refine .condB (by simp only [go_sem, seval]; rfl) (by simp only [go_sem, seval]) (fun h10 => ?_) (fun h10 => ?_)
 ·refine .seq (.rgn [] (by simp only [go_sem, seval]; rfl) ?_ ?_)
  ·first | trivial | simp
  refine .ret ⟨.inr rfl, ?_⟩
  exact Out.plain (by simp only [Tryz.results156]; rfl) (by simp only [ba_, bs_, go_sem, seval] <;> (split <;> rfl)) (by simp only [bq_, go_sem, seval] <;> (simp at h10; rw [decide_eq_false (by omega)]; rfl)) (by simp only [go_sem, seval])
 ·refine .skip (.seq (.seq (.rgn [] (by simp only [go_sem, seval]; rfl) ?_ ?_)))
  ·first | trivial | simp
  refine .block (.loopK (fun k : Nat => ⟨[.sl false (eR xs), .sl false (eR ys), .no, .no, .no, .i .i64 k, .no, .no, .no, .no, .no, .no, .no, .no, .no, .no, .no, .no, .no, .no, .no, .no, .no, .no, .no, .no, .no], bf_ [], us []⟩) (fun k : Nat => k ≤ xs.length ∧ ((xs.zip ys).take k).all (fun q => same q.1 q.2) = true) (fun k : Nat => xs.length - k) (0) ?_ ?_ (fun k hI => ?_))
  ·simp
  ·exact Can.weak (Weak.lit (by simp only [go_sem, seval, a2_, leV, az_, ay_, V.inn, us, T9_, Ta_] <;> (simp)) (by simp only [go_sem, seval, a2_, leV, az_, ay_, V.inn, us, T9_, Ta_]) (by simp only [go_sem, seval, a2_, leV, az_, ay_, V.inn, us, T9_, Ta_]))
  refine .seq (.seq (.rgn [] (by simp only [go_sem, seval]; rfl) ?_ ?_))
  ·first | trivial | simp
  refine .condB (by simp only [go_sem, seval]; rfl) (by simp only [go_sem, seval]) (fun h14 => ?_) (fun h14 => ?_)
  ·refine .skip (.seq (.block (.seq (.rgnD [br_ (ih (xs.getD k E0) (b2_ (by simpa using h14)) (ys.getD k E0) (c0_ hs _ (b2_ (by simp at h14 h10; omega))))] enM (by simp only [go_sem, seval, c7_ (show k < xs.length by simpa using h14), c7_ (show k < ys.length by simp at h14 h10; omega)]; rfl) (by rfl) ?_ ?_))))
   ·simp at h14 h10; simp; omega
   refine .condB (by simp only [go_sem, seval]; rfl) (by simp only [go_sem, seval]) (fun h26 => ?_) (fun h26 => ?_)
   ·refine .seq (.rgn [] (by simp only [go_sem, seval]; rfl) ?_ ?_)
    ·first | trivial | simp
    refine .ret ⟨.inr rfl, ?_⟩
    exact Out.plain (by simp only [Tryz.results156]; rfl) (by simp only [ba_, bs_, go_sem, seval] <;> (split <;> rfl)) (by simp only [bq_, go_sem, seval] <;> (simp at h14 h10; simp only [Bool.not_eq_true'] at h26; have := rw_ (fun q => same q.1 q.2) h14 (show k < ys.length by omega) h26; rw [this]; simp)) (by simp only [go_sem, seval])
   ·refine .skip (.rgn [] (by simp only [go_sem, seval]; rfl) ?_ ?_)
    ·first | trivial | simp
    refine Exists.intro (k + 1) ⟨?_, ?_, ?_⟩
    ·simp at h14 h10; have hb := n5_ (fun q => same q.1 q.2) h14 (show k < ys.length by omega); simp only [Bool.not_eq_false'] at h26; exact ⟨by omega, by rw [hb, hI.2, h26]; rfl⟩
    ·simp at h14; omega
    exact Can.weak (Weak.lit (by simp only [go_sem, seval, a2_, leV, az_, ay_, V.inn, us, T9_, Ta_] <;> (rw [bv_ (by simp at h14; omega) (by simp at h14; omega)]; simp)) (by simp only [go_sem, seval, a2_, leV, az_, ay_, V.inn, us, T9_, Ta_]) (by simp only [go_sem, seval, a2_, leV, az_, ay_, V.inn, us, T9_, Ta_]))
  ·refine .exit (.seq (.rgn [] (by simp only [go_sem, seval]; rfl) ?_ ?_))
   ·first | trivial | simp
   refine .ret ⟨.inr rfl, ?_⟩
   exact Out.plain (by simp only [Tryz.results156]; rfl) (by simp only [ba_, bs_, go_sem, seval] <;> (split <;> rfl)) (by simp only [bq_, go_sem, seval] <;> (simp at h14 h10; have h0 := hI.2; rw [T1_ (by rw [List.length_zip]; omega)] at h0; rw [h0, decide_eq_true (by omega)]; rfl)) (by simp only [go_sem, seval])
theorem ku_ (x : E) : sm x = true → EqA x := by
 induction x using E.ind' with
 | h x ih =>
 intro hs y hy
 obtain ⟨a1, a2, a3⟩ := d2_ hs
 obtain ⟨b1, b2, b3⟩ := d2_ hy
 rw [kz_]
 refine an_ (fn := Tryz.f88) [] Tryz.func88 rfl rfl (by simp) fun C => ?_
 rw [bb_]
 simp only [Tryz.ntmps88, T7_, List.length_nil, Nat.reduceAdd, Nat.reduceSub, List.replicate_succ, List.replicate_zero, List.cons_append, List.nil_append, bu_]
 refine .seq (.rgn [] (by simp only [go_sem, seval, bm_]; rfl) ?_ ?_)
 ·first | trivial | simp
 refine .seq (.seq (.rgn [] (by simp only [go_sem, seval, bm_]; rfl) ?_ ?_))
 ·first | trivial | simp
 refine .condB (by simp only [go_sem, seval, bm_]; rfl) (by simp only [go_sem, seval, bm_]) (fun h9 => ?_) (fun h9 => ?_)
 ·refine .seq (.rgn [] (by simp only [go_sem, seval, bm_]; rfl) ?_ ?_)
  ·first | trivial | simp
  refine .ret ⟨.inr rfl, ?_⟩
  exact Out.plain (by simp only [Tryz.results88]; rfl) (by simp only [ba_, bs_, go_sem, seval, bm_] <;> (split <;> rfl)) (by simp only [bq_, go_sem, seval, bm_] <;> (simp at h9; simp [h9])) (by simp only [go_sem, seval, bm_])
 ·refine .skip (.seq (.seq (.rgn [] (by simp only [go_sem, seval, bm_]; rfl) ?_ ?_)))
  ·first | trivial | simp
  refine .condB (by simp only [go_sem, seval, bm_]; rfl) (by simp only [go_sem, seval, bm_]) (fun h14 => ?_) (fun h14 => ?_)
  ·refine .seq (.rgn [] (by simp only [go_sem, seval, bm_]; rfl) ?_ ?_)
   ·first | trivial | simp
   refine .ret ⟨.inr rfl, ?_⟩
   exact Out.plain (by simp only [Tryz.results88]; rfl) (by simp only [ba_, bs_, go_sem, seval, bm_] <;> (split <;> rfl)) (by simp only [bq_, go_sem, seval, bm_] <;> (simp at h9 h14; simp [h14])) (by simp only [go_sem, seval, bm_])
  ·refine .skip (.seq (.seq (.rgn [] (by simp only [go_sem, seval, bm_]; rfl) ?_ ?_)))
   ·first | trivial | simp
   refine .condB (by simp only [go_sem, seval, bm_]; rfl) (by simp only [go_sem, seval, bm_]) (fun h19 => ?_) (fun h19 => ?_)
   ·refine .seq (.rgn [] (by simp only [go_sem, seval, bm_]; rfl) ?_ ?_)
    ·first | trivial | simp
    refine .ret ⟨.inr rfl, ?_⟩
    exact Out.plain (by simp only [Tryz.results88]; rfl) (by simp only [ba_, bs_, go_sem, seval, bm_] <;> (split <;> rfl)) (by simp only [bq_, go_sem, seval, bm_] <;> (simp at h9 h14 h19; simp [h19])) (by simp only [go_sem, seval, bm_])
   ·refine .skip (.seq (.seq (.rgn [br_ (ye_ x.kids y.kids (fun e he => ih e he (c0_ a3 e he)) a2 b2 b3)] (by simp only [go_sem, seval, bm_]; rfl) ?_ ?_)))
    ·first | trivial | simp
    refine .condB (by simp only [go_sem, seval, bm_]; rfl) (by simp only [go_sem, seval, bm_]) (fun h25 => ?_) (fun h25 => ?_)
    ·refine .seq (.rgn [] (by simp only [go_sem, seval, bm_]; rfl) ?_ ?_)
     ·first | trivial | simp
     refine .ret ⟨.inr rfl, ?_⟩
     exact Out.plain (by simp only [Tryz.results88]; rfl) (by simp only [ba_, bs_, go_sem, seval, bm_] <;> (split <;> rfl)) (by simp only [bq_, go_sem, seval, bm_] <;> (simp at h9 h14 h19 h25; simp [h25])) (by simp only [go_sem, seval, bm_])
    ·refine .skip (.seq (.rgn [] (by simp only [go_sem, seval, bm_]; rfl) ?_ ?_))
     ·first | trivial | simp
     refine .ret ⟨.inr rfl, ?_⟩
     exact Out.plain (by simp only [Tryz.results88]; rfl) (by simp only [ba_, bs_, go_sem, seval, bm_] <;> (split <;> rfl)) (by simp only [bq_, go_sem, seval, bm_] <;> (simp at h9 h14 h19 h25; simp [h9, h14, h19, h25])) (by simp only [go_sem, seval, bm_])
end
section
set_option maxRecDepth 100000
set_option maxHeartbeats 4000000
theorem nq_ (a b : Bl) (ha : smb a = true) (hb : smb b = true) : ACall En 52 [.ag (bC a), .ag (bC b)] [] [.b (mb_ a b)] [] := by
 obtain ⟨a1, a2, a3⟩ := nx_ ha
 obtain ⟨b1, b2, b3⟩ := nx_ hb
 refine an_ (fn := Tryz.f52) [] Tryz.func52 rfl rfl (by simp) fun C => ?_
 rw [bb_]
 simp only [Tryz.ntmps52, T7_, List.length_nil, Nat.reduceAdd, Nat.reduceSub, List.replicate_succ, List.replicate_zero, List.cons_append, List.nil_append, bu_]
 refine .seq (.rgn [] (by simp only [go_sem, seval, a3_]; rfl) ?_ ?_)
 ·first | trivial | simp
 refine .seq (.seq (.rgn [] (by simp only [go_sem, seval, a3_]; rfl) ?_ ?_))
 ·first | trivial | simp
 refine .condB (by simp only [go_sem, seval, a3_]; rfl) (by simp only [go_sem, seval, a3_]) (fun h9 => ?_) (fun h9 => ?_)
 ·refine .seq (.rgn [] (by simp only [go_sem, seval, a3_]; rfl) ?_ ?_)
  ·first | trivial | simp
  refine .ret ⟨.inr rfl, ?_⟩
  exact Out.plain (by simp only [Tryz.results52]; rfl) (by simp only [ba_, bs_, go_sem, seval, a3_] <;> (split <;> rfl)) (by simp only [bq_, go_sem, seval, a3_] <;> (simp at h9; simp [mb_, h9])) (by simp only [go_sem, seval, a3_])
 ·refine .skip (.seq (.seq (.rgn [] (by simp only [go_sem, seval, a3_]; rfl) ?_ ?_)))
  ·first | trivial | simp
  refine .condB (by simp only [go_sem, seval, a3_]; rfl) (by simp only [go_sem, seval, a3_]) (fun h14 => ?_) (fun h14 => ?_)
  ·refine .seq (.rgn [] (by simp only [go_sem, seval, a3_]; rfl) ?_ ?_)
   ·first | trivial | simp
   refine .ret ⟨.inr rfl, ?_⟩
   exact Out.plain (by simp only [Tryz.results52]; rfl) (by simp only [ba_, bs_, go_sem, seval, a3_] <;> (split <;> rfl)) (by simp only [bq_, go_sem, seval, a3_] <;> (simp at h9 h14; simp [mb_, h14])) (by simp only [go_sem, seval, a3_])
  ·refine .skip (.seq (.seq (.rgn [br_ (ku_ a.expr a2 b.expr b2)] (by simp only [go_sem, seval, a3_]; rfl) ?_ ?_)))
   ·first | trivial | simp
   refine .condB (by simp only [go_sem, seval, a3_]; rfl) (by simp only [go_sem, seval, a3_]) (fun h20 => ?_) (fun h20 => ?_)
   ·refine .seq (.rgn [] (by simp only [go_sem, seval, a3_]; rfl) ?_ ?_)
    ·first | trivial | simp
    refine .ret ⟨.inr rfl, ?_⟩
    exact Out.plain (by simp only [Tryz.results52]; rfl) (by simp only [ba_, bs_, go_sem, seval, a3_] <;> (split <;> rfl)) (by simp only [bq_, go_sem, seval, a3_] <;> (simp at h9 h14 h20; simp [mb_, h20])) (by simp only [go_sem, seval, a3_])
   ·refine .skip (.seq (.seq (.rgn [br_ (ku_ a.thn a3 b.thn b3)] (by simp only [go_sem, seval, a3_]; rfl) ?_ ?_)))
    ·first | trivial | simp
    refine .condB (by simp only [go_sem, seval, a3_]; rfl) (by simp only [go_sem, seval, a3_]) (fun h26 => ?_) (fun h26 => ?_)
    ·refine .seq (.rgn [] (by simp only [go_sem, seval, a3_]; rfl) ?_ ?_)
     ·first | trivial | simp
     refine .ret ⟨.inr rfl, ?_⟩
     exact Out.plain (by simp only [Tryz.results52]; rfl) (by simp only [ba_, bs_, go_sem, seval, a3_] <;> (split <;> rfl)) (by simp only [bq_, go_sem, seval, a3_] <;> (simp at h9 h14 h20 h26; simp [mb_, h26])) (by simp only [go_sem, seval, a3_])
    ·refine .skip (.seq (.rgn [] (by simp only [go_sem, seval, a3_]; rfl) ?_ ?_))
     ·first | trivial | simp
     refine .ret ⟨.inr rfl, ?_⟩
     exact Out.plain (by simp only [Tryz.results52]; rfl) (by simp only [ba_, bs_, go_sem, seval, a3_] <;> (split <;> rfl)) (by simp only [bq_, go_sem, seval, a3_] <;> (simp at h9 h14 h20 h26; simp [mb_, h9, h14, h20, h26])) (by simp only [go_sem, seval, a3_])
end
section
open Go.ChangeShapes Go.WideShapes Go.ChangeAt Go.RowKit
set_option maxRecDepth 100000
section
variable {H : Type} {enc : TypeId × Value → H} {P : Program} {W : World}
def Opn (enc : TypeId × Value → H) (P : Program) (W : World) (fuel : Nat) (t : TypeId) (Q : List V → Prop) : Prop :=
 ∀ cs x, DataW.trod enc P W 0 (fun _ => true) true fuel t cs = some x → ∃ vs, Q vs ∧ VRs (fun _ => none) (fun _ => True) W vs cs ∧ vs.all V.one = true
theorem r0_ {t : TypeId} {k : IntKind} {fuel : Nat} (ht : P.underlying t = some (.int k)) : Opn enc P W fuel t fun vs => ∃ n : Int, vs = [.i k n] ∧ (Lit.int k n).wf = true := fun cs x h => by
 obtain ⟨n, rfl, _, hw⟩ := DataW.trod_int ht h
 exact ⟨_, ⟨n, rfl, hw⟩, .cons (by simp only [VR]) .nil, rfl⟩
theorem rl_ {t : TypeId} {fuel : Nat} (ht : P.underlying t = some .string) : Opn enc P W fuel t fun vs => ∃ s : Str, vs = [.s s] ∧ s.length ≤ maxLen := fun cs x h => by
 obtain ⟨s, rfl, _, hw⟩ := DataW.trod_string ht h
 refine ⟨_, ⟨s.data.toList, rfl, by rw [Array.length_toList]; exact hw⟩, .cons (by simp only [VR]) .nil, rfl⟩
theorem ev_ {fs : Array Field} {t : TypeId} {fuel : Nat} {cs : List Value} {x : DataW H × List MemPlace} (ht : P.underlying t = some (.struct fs)) (h : DataW.trod enc P W 0 (fun _ => true) true fuel t cs = some x) {Q : List V → Prop} {f : Field} {i : Nat} (hf : fs[i]? = some f) {off size : Nat} (ho : f.offset = off) (hs : P.cellsOf f.type = size)
  (hq : ∀ n, n + 1 = fuel → Opn enc P W n f.type Q) : cs.length = P.cellsOf t ∧ ∃ vs, Q vs ∧ VRs (fun _ => none) (fun _ => True) W vs ((cs.drop off).take size) ∧ vs.all V.one = true := by
 obtain ⟨xs, n, e1, _, hl, hxl, hx⟩ := DataW.trod_struct ht h
 have hh := hx i f hf
 have hi : i < xs.length := by rw [hxl]; exact (Array.getElem?_eq_some_iff.1 hf).1
 rw [T6_ hi, ho, hs] at hh
 exact ⟨hl, hq n e1.symm _ _ hh⟩
theorem s4_ {base g o z : Nat} {sp : Option _} {cs : List Value} (h : W.cells? base ⟨g, o, sp⟩ z = some cs) : cs.length = z ∧ ∀ j u, cs[j]? = some u → W.cell? ((⟨g, o, sp⟩ : Addr).add j) = some u := by
 unfold World.cells? at h
 split at h
 ·refine ⟨by simpa using mapM_some_length h, fun j u hu => ?_⟩
  have hj : j < z := by
   have h1 := mapM_some_length h
   have h2 := (List.getElem?_eq_some_iff.1 hu).1
   simp at h1; omega
  have := mapM_some_get h j j (by simp [hj])
  rw [this]; exact hu
 ·cases h
theorem oc_ {α : Type} (R : α → List V) (Good : α → Prop) {z g o : Nat} : ∀ n : Nat, (∀ i, i < n → ∃ (a : α) (cs : List Value), Good a ∧ (R a).length = z ∧ VRs (fun _ => none) (fun _ => True) W (R a) cs ∧ (R a).all V.one = true ∧ ∀ j u, cs[j]? = some u → W.cell? ⟨g, o + i * z + j, none⟩ = some u) →
  ∃ l : List α, l.length = n ∧ (∀ a ∈ l, Good a) ∧ ∃ xs, VRr (fun _ => none) (fun _ => True) W z (l.map R) xs ∧ ∀ j u, xs[j]? = some u → W.cell? ⟨g, o + j, none⟩ = some u
 | 0, _ => ⟨[], rfl, fun a ha => (by cases ha), [], .nil, fun j u hu => by simp at hu⟩
 | n + 1, h => by
  obtain ⟨l, hl, hg, xs, hr, hc⟩ := oc_ R Good (z := z) (g := g) (o := o) n fun i hi => h i (by omega)
  obtain ⟨a, cs, ga, hz, hv, h1, hcc⟩ := h n (by omega)
  have hxl : xs.length = n * z := by rw [hr.len, List.length_map, hl]
  have hnew : VRr (fun _ => none) (fun _ => True) W z [R a] (cs ++ []) := .cons hz hv (VRs.ones hv h1) .nil
  refine ⟨l ++ [a], by simp [hl], fun b hb => ?_, xs ++ cs, ?_, fun j u hu => ?_⟩
  ·rcases List.mem_append.1 hb with hb | hb
   ·exact hg b hb
   ·simp at hb; subst hb; exact ga
  ·have := hr.append hnew
   simpa using this
  ·rw [List.getElem?_append] at hu
   split at hu
   ·exact hc j u hu
   ·rename_i hj
    have := hcc _ u hu
    rw [show o + n * z + (j - xs.length) = o + j by omega] at this
    exact this
theorem ps_ {α : Type} (R : α → List V) (Good : α → Prop) {t e : TypeId} {z fuel : Nat} (ht : P.underlying t = some (.slice e)) (hz : P.cellsOf e = z) (hz0 : 0 < z) (hq : ∀ n, n + 1 = fuel → Opn enc P W n e fun vs => ∃ a, vs = R a ∧ Good a) :
  Opn enc P W fuel t fun vs => ∃ l : List α, vs = [.sl false (l.map R)] ∧ l.length ≤ maxLen ∧ ∀ a ∈ l, Good a := fun cs x h => by
 rcases DataW.trod_slice ht h with ⟨rfl, _⟩ | ⟨a, len, cap, elems, rest, n, e1, rfl, _, _, hl, hm, hlen, hel, _⟩
 ·refine ⟨_, ⟨[], rfl, by simp, fun a ha => by cases ha⟩, .cons ?_ .nil, rfl⟩
  simp only [VR]
  exact ⟨none, 0, 1, [], rfl, Nat.le_refl _, by decide, fun _ => rfl, fun h => absurd rfl h, VRr.nil⟩
 ·obtain ⟨g, o, sp⟩ := a
  by_cases h0 : len = 0
  ·subst h0
   refine ⟨_, ⟨[], rfl, by simp, fun a ha => by cases ha⟩, .cons ?_ .nil, rfl⟩
   simp only [VR]
   exact ⟨some ⟨g, o, sp⟩, cap, 1, [], rfl, hl, hm, (fun h => by cases h), (fun h => absurd rfl h), VRr.nil⟩
  ·have hE : ∀ i, i < len → ∃ (a : α) (cs : List Value), Good a ∧ (R a).length = z ∧ VRs (fun _ => none) (fun _ => True) W (R a) cs ∧ (R a).all V.one = true ∧ W.cells? 0 ((⟨g, o, sp⟩ : Addr).add (i * z)) z = some cs := fun i hi => by
    have h1 := hel i hi
    have hi2 : i < elems.length := by omega
    rw [T6_ hi2, hz, Option.bind_eq_some_iff] at h1
    obtain ⟨cs, h2, h3⟩ := h1
    obtain ⟨vs, ⟨a, rfl, ga⟩, hv, h4⟩ := hq n e1.symm _ _ h3
    refine ⟨a, cs, ga, ?_, hv, h4, h2⟩
    rw [← hv.len]
    unfold World.cells? at h2
    split at h2
    ·simpa using mapM_some_length h2
    ·cases h2
   obtain ⟨a0, cs0, _, hz1, hv0, _, hc0⟩ := hE 0 (by omega)
   have hne : 0 < cs0.length := by rw [hv0.len, hz1]; exact hz0
   have hs := (s4_ (by simpa [Addr.add] using hc0)).2 0 cs0[0] (T6_ hne)
   have hsp : sp = none := by simpa [Addr.add] using World.cell?_spot hs
   subst hsp
   have hg : g < W.heap.size := by
    cases hh : W.heap[g]? with
    | none => simp [World.cell?, hh, add_plain] at hs
    | some o => exact (Array.getElem?_eq_some_iff.1 hh).1
   obtain ⟨l, hll, hgood, xs, hr, hc⟩ := oc_ R Good (W := W) (z := z) (g := g) (o := o) len fun i hi => by
    obtain ⟨a, cs, k1, k2, k3, k4, k5⟩ := hE i hi
    rw [add_plain] at k5
    exact ⟨a, cs, k1, k2, k3, k4, fun j u hu => by have := (s4_ k5).2 j u hu; rwa [add_plain] at this⟩
   refine ⟨_, ⟨l, rfl, by omega, hgood⟩, .cons ?_ .nil, rfl⟩
   simp only [VR, List.length_map]
   exact ⟨some ⟨g, o, none⟩, cap, z, xs, by rw [hll], by omega, hm, (fun h => by cases h), (fun _ => ⟨g, o, rfl, trivial, hg, hc⟩), hr⟩
theorem f1_ {φ : Phi} {S : Nat → Prop} {vs us : List V} {cs : List Value} {a b c : Nat} (h : VRs φ S W vs ((cs.drop a).take b)) (hc : a + b = c) (k : VRs φ S W us (cs.drop c)) : VRs φ S W (vs ++ us) (cs.drop a) := by
 subst hc
 have := h.append k
 rw [← List.drop_drop, List.take_append_drop] at this
 exact this
theorem t3_ {φ : Phi} {S : Nat → Prop} {vs : List V} {cs : List Value} {a b : Nat} (h : VRs φ S W vs ((cs.drop a).take b)) (hl : cs.length = a + b) : VRs φ S W vs (cs.drop a) := by
 rw [T1_ (by rw [List.length_drop]; omega)] at h; exact h
end
theorem n1_ : Tryz.prog.cellsOf 3 = 1 := by kernel_rfl
theorem np_ : Tryz.prog.cellsOf 9 = 1 := by kernel_rfl
theorem ne_ : Tryz.prog.cellsOf 44 = 4 := by kernel_rfl
theorem zj_ : Tryz.prog.cellsOf 42 = 1 := by kernel_rfl
section
variable {H : Type} {enc : TypeId × Value → H} {W : World}
theorem aat_ : ∀ {l : List E}, (∀ e ∈ l, bd e = true) → bds l = true
 | [], _ => by simp only [bds]
 | e :: r, h => by simp only [bds, T5_]; exact ⟨h e List.mem_cons_self, aat_ fun x hx => h x (List.mem_cons_of_mem _ hx)⟩
theorem aim_ {k n : Int} {s : Str} {l : List E} (h1 : s.length ≤ maxLen) (h2 : l.length ≤ maxLen) (h3 : ∀ e ∈ l, bd e = true) : bd (.mk k n s l) = true := by
 have hm : maxLen = 9223372036854775807 := by decide
 simp only [bd, aat_ h3, Bool.and_true, T5_, T3_]; omega
theorem sb_ : ∀ fuel, Opn enc Tryz.prog W fuel 44 fun vs => ∃ e, vs = eC e ∧ bd e = true := by
 intro fuel
 induction fuel using Nat.strongRecOn with
 | ind fuel ih =>
 intro cs x h
 obtain ⟨hl, _, ⟨k, rfl, _⟩, v0, o0⟩ := ev_ Tryz.underlying44 h (i := 0) rfl rfl n1_ fun n _ => r0_ Tryz.underlying3
 obtain ⟨_, _, ⟨n, rfl, _⟩, v1, o1⟩ := ev_ Tryz.underlying44 h (i := 1) rfl rfl n1_ fun n _ => r0_ Tryz.underlying3
 obtain ⟨_, _, ⟨s, rfl, hs⟩, v2, o2⟩ := ev_ Tryz.underlying44 h (i := 2) rfl rfl np_ fun n _ => rl_ Tryz.underlying9
 obtain ⟨_, _, ⟨l, rfl, hk, hg⟩, v3, o3⟩ := ev_ Tryz.underlying44 h (i := 3) rfl rfl zj_ fun n hn => ps_ eC (fun e => bd e = true) Tryz.underlying42 ne_ (by decide) fun m hm => ih m (by omega)
 rw [ne_] at hl
 refine ⟨_, ⟨.mk k n s l, rfl, aim_ hs hk hg⟩, ?_, ?_⟩
 ·have := f1_ v0 rfl (f1_ v1 rfl (f1_ v2 rfl (t3_ v3 hl)))
  simp only [eC, j3_]; simpa using this
 ·simp only [eC]; rfl
end
end
end Go.Proofs.YtcigkafioinfoaaGreatDoor
