/- Programs: lists of lines; whether they are ok; what they are turned into. Conditions: none. -/
import Derived.Test.YtcigkafioinfoaaGreatDoorKo
import Derived.Test.YtcigkafioinfoaaGreatDoorKx
set_option linter.unusedVariables false
set_option linter.unusedSimpArgs false
namespace Go.Proofs.YtcigkafioinfoaaGreatDoor
section
set_option maxRecDepth 100000
set_option maxHeartbeats 4000000
theorem aco_ (s : Sl) (hs : ea_ s = true) : ACall En 140 [.ag (sC s)] [] [.b (!sok s)] [] := by
 refine aj_ (fn := Tryz.f140) [] Tryz.func140 rfl rfl (by simp) fun C => ?_
 rw [ay_]
 simp only [Tryz.ntmps140, T7_, List.length_nil, Nat.reduceAdd, Nat.reduceSub, List.replicate_succ, List.replicate_zero, List.cons_append, List.nil_append, bu_]
 refine .seq (.rgn [] (by simp only [go_sem, seval, ag_]; rfl) ?_ ?_)
 ·first | trivial | simp
 refine .seq (.rgn [a8_ (mz_ s hs)] (by simp only [go_sem, seval, ag_]; rfl) ?_ ?_)
 ·first | trivial | simp
 refine .ret ⟨.inr rfl, ?_⟩
 exact Out.plain (by simp only [Tryz.results140]; rfl) (by simp only [az_, bc_, go_sem, seval, ag_] <;> (split <;> rfl)) (by simp only [bb_, go_sem, seval, ag_] <;> (rfl)) (by simp only [go_sem, seval, ag_])
theorem amc_ (l : List Sl) (hs : vz_ l = true) (hl : l.length < 4611686018427387904) : ACall En 194 [.sl false (sR l), .fn (.func 140) [] []] [] [.i .i64 (ta_ (fun s => !sok s) l)] [] := by
 refine aj_ (fn := Tryz.f194) [] Tryz.func194 rfl rfl (by simp) fun C => ?_
 rw [ay_]
 simp only [Tryz.ntmps194, T7_, List.length_nil, Nat.reduceAdd, Nat.reduceSub, List.replicate_succ, List.replicate_zero, List.cons_append, List.nil_append, bu_]
 refine .seq (.rgn [] (by simp only [go_sem, seval, a3_, au_, ag_]; rfl) ?_ ?_)
 ·first | trivial | simp
 refine .seq (.seq (.rgn [] (by simp only [go_sem, seval, a3_, au_, ag_]; rfl) ?_ ?_))
 ·first | trivial | simp
 refine .block (.loopK (fun k : Nat => ⟨[.sl false (sR l), .fn (.func 140) [] [], .no, .no, .no, .no, .no, .i .i64 l.length, .i .i64 k, .no, .no, .no, .no, .no, .no, .no, .no, .no, .no], bh_ [], us []⟩) (fun k : Nat => k ≤ l.length ∧ (l.take k).any (fun s => !sok s) = false) (fun k : Nat => l.length - k) (0) ?_ ?_ (fun k hI => ?_))
 ·simp
 ·exact Can.weak (Weak.lit (by simp only [go_sem, seval, a3_, au_, ag_, ar_, leV, ap_, aq_, V.inn, us, T9_, Ta_] <;> (simp)) (by simp only [go_sem, seval, a3_, au_, ag_, ar_, leV, ap_, aq_, V.inn, us, T9_, Ta_]) (by simp only [go_sem, seval, a3_, au_, ag_, ar_, leV, ap_, aq_, V.inn, us, T9_, Ta_]))
 refine .seq (.rgn [] (by simp only [go_sem, seval, a3_, au_, ag_]; rfl) ?_ ?_)
 ·first | trivial | simp
 refine .seq (.condB (by simp only [go_sem, seval, a3_, au_, ag_]; rfl) (by simp only [go_sem, seval, a3_, au_, ag_]) (fun h9 => ?_) (fun h9 => ?_))
 ·refine .skip (.seq (.block (.seq (.rgn [] (by simp only [go_sem, seval, a3_, au_, ag_]; rfl) ?_ ?_))))
  ·first | trivial | simp
  refine .seq (.rgn [ce_ (k < l.length) (fun h => aco_ (l.getD k S0) (ah7_ hs h))] (by simp only [go_sem, seval, a3_, au_, ag_, ae8_ (show k < l.length by simpa using h9)]; rfl) ?_ ?_)
  ·simp only [T3_] at h9; simp; omega
  refine .condB (by simp only [go_sem, seval, a3_, au_, ag_]; rfl) (by simp only [go_sem, seval, a3_, au_, ag_]) (fun h16 => ?_) (fun h16 => ?_)
  ·refine .seq (.rgn [] (by simp only [go_sem, seval, a3_, au_, ag_]; rfl) ?_ ?_)
   ·first | trivial | simp
   refine .ret ⟨.inr rfl, ?_⟩
   exact Out.plain (by simp only [Tryz.results194]; rfl) (by simp only [az_, bc_, go_sem, seval, a3_, au_, ag_] <;> (split <;> rfl)) (by simp only [bb_, go_sem, seval, a3_, au_, ag_] <;> (simp at h9; rw [tj_ (d := S0) h9 hI.2 h16])) (by simp only [go_sem, seval, a3_, au_, ag_])
  ·refine .skip (.rgn [] (by simp only [go_sem, seval, a3_, au_, ag_]; rfl) ?_ ?_)
   ·first | trivial | simp
   refine Exists.intro (k + 1) ⟨?_, ?_, ?_⟩
   ·simp at h9; refine ⟨by omega, ?_⟩; rw [o0_ (d := S0) h9, hI.2, h16]; rfl
   ·simp at h9; omega
   exact Can.weak (Weak.lit (by simp only [go_sem, seval, a3_, au_, ag_, ar_, leV, ap_, aq_, V.inn, us, T9_, Ta_] <;> (rw [bi_ (by omega) (by omega)]; simp)) (by simp only [go_sem, seval, a3_, au_, ag_, ar_, leV, ap_, aq_, V.inn, us, T9_, Ta_]) (by simp only [go_sem, seval, a3_, au_, ag_, ar_, leV, ap_, aq_, V.inn, us, T9_, Ta_]))
 ·refine .exit (.seq (.rgn [] (by simp only [go_sem, seval, a3_, au_, ag_]; rfl) ?_ ?_))
  ·first | trivial | simp
  refine .ret ⟨.inr rfl, ?_⟩
  exact Out.plain (by simp only [Tryz.results194]; rfl) (by simp only [az_, bc_, go_sem, seval, a3_, au_, ag_] <;> (split <;> rfl)) (by simp only [bb_, go_sem, seval, a3_, au_, ag_] <;> (simp at h9; have h0 := hI.2; rw [T1_ h9] at h0; rw [mi_ h0])) (by simp only [go_sem, seval, a3_, au_, ag_])
theorem wi_ (l : List Sl) (hs : vz_ l = true) (hl : l.length < 4611686018427387904) : ACall En 139 [.sl false (sR l), .fn (.func 140) [] []] [] [.b (l.any fun s => !sok s)] [] := by
 refine aj_ (fn := Tryz.f139) [] Tryz.func139 rfl rfl (by simp) fun C => ?_
 rw [ay_]
 simp only [Tryz.ntmps139, T7_, List.length_nil, Nat.reduceAdd, Nat.reduceSub, List.replicate_succ, List.replicate_zero, List.cons_append, List.nil_append, bu_]
 refine .seq (.rgn [] (by simp only [go_sem, seval, au_]; rfl) ?_ ?_)
 ·first | trivial | simp
 refine .seq (.rgn [a8_ (amc_ l hs hl)] (by simp only [go_sem, seval, au_]; rfl) ?_ ?_)
 ·first | trivial | simp
 refine .ret ⟨.inr rfl, ?_⟩
 exact Out.plain (by simp only [Tryz.results139]; rfl) (by simp only [az_, bc_, go_sem, seval, au_] <;> (split <;> rfl)) (by simp only [bb_, go_sem, seval, au_] <;> (rw [s6_])) (by simp only [go_sem, seval, au_])
def pok (l : List Sl) : Bool := decide (1 ≤ l.length) && decide (l.length ≤ 16) && l.all sok
theorem aj2_ (l : List Sl) : (l.any fun s => !sok s) = !l.all sok := by rw [List.any_eq_not_all_not]; simp
theorem er_ {l : List Sl} (h : pok l = true) : 1 ≤ l.length ∧ l.length ≤ 16 ∧ ∀ k, k < l.length → sok (l.getD k S0) = true := by
 simp only [pok, T5_, T3_, List.all_eq_true] at h
 exact ⟨h.1.1, h.1.2, fun k hk => h.2 _ (bp_ hk)⟩
theorem abm_ (l : List Sl) (hs : vz_ l = true) (hl : l.length < 4611686018427387904) : ACall En 77 [.sl false (sR l)] [] [.b (pok l)] [] := by
 refine aj_ (fn := Tryz.f77) [] Tryz.func77 rfl rfl (by simp) fun C => ?_
 rw [ay_]
 simp only [Tryz.ntmps77, T7_, List.length_nil, Nat.reduceAdd, Nat.reduceSub, List.replicate_succ, List.replicate_zero, List.cons_append, List.nil_append, bu_]
 refine .seq (.rgn [] (by simp only [go_sem, seval, a3_, au_]; rfl) ?_ ?_)
 ·first | trivial | simp
 refine .seq (.rgn [a8_ (x2_ l.length 1 16), a8_ (wi_ l hs hl)] (by simp only [go_sem, seval, a3_, au_]; rfl) ?_ ?_)
 ·first | trivial | simp
 refine .ret ⟨.inr rfl, ?_⟩
 exact Out.plain (by simp only [Tryz.results77]; rfl) (by simp only [az_, bc_, go_sem, seval, a3_, au_] <;> (split <;> rfl)) (by simp only [bb_, go_sem, seval, a3_, au_] <;> (rw [aj2_]; simp only [pok, Bool.not_not, e0_]; rfl)) (by simp only [go_sem, seval, a3_, au_])
def cf_ (l : List Str) : Str := [(10 : UInt8)].intercalate l
theorem jz_ (s x : Str) (l : List Str) : cf_ (s :: x :: l) = s ++ 10 :: cf_ (x :: l) := by simp [cf_, List.intercalate]
theorem ot_ (s : Str) : cf_ [s] = s := by simp [cf_, List.intercalate]
theorem ko_ : cf_ [] = [] := rfl
theorem s2_ : ∀ l : List Str, l ≠ [] → (cf_ l).length + 1 = (l.map List.length).sum + l.length
 | [], h => absurd rfl h
 | [s], _ => by rw [ot_]; simp
 | s :: x :: l, _ => by
  have := s2_ (x :: l) (by simp)
  rw [jz_]
  simp only [T2_, T7_, List.map_cons, List.sum_cons] at this ⊢
  omega
theorem ri_ {l : List Str} {k : Nat} (h : ∀ s ∈ l, s.length ≤ k) : (cf_ l).length ≤ l.length * (k + 1) := by
 by_cases hl : l = []
 ·subst hl; simp [ko_]
 ·have h1 := s2_ l hl
  have h2 := yk_ h
  rw [Nat.mul_add]; omega
theorem zh_ : ∀ (l : List Str) (s : Str), cf_ (l ++ [s]) = (if l = [] then [] else cf_ l ++ [10]) ++ s
 | [], s => by simp [ot_]
 | [x], s => by simp [jz_, ot_]
 | x :: y :: l, s => by
  have := zh_ (y :: l) s
  simp only [List.cons_append] at this ⊢
  rw [jz_, jz_, this]
  simp
theorem aas_ {l : List Str} {k : Nat} (h : k < l.length) : cf_ (l.take (k + 1)) = (if 0 < k then cf_ (l.take k) ++ [10] else []) ++ l.getD k [] := by
 have e : l.take (k + 1) = l.take k ++ [l.getD k []] := by
  rw [List.take_add_one, T6_ h, T8_, T6_ h]; rfl
 rw [e, zh_]
 congr 1
 cases k with
 | zero => simp
 | succ k =>
  have : l.take (k + 1) ≠ [] := by
   intro e0
   have := congrArg List.length e0
   rw [List.length_take] at this
   simp only [List.length_nil] at this
   omega
  rw [if_neg this, if_pos (by omega)]
theorem ad2_ {l : List Str} (k : Nat) : (cf_ (l.take k)).length ≤ (cf_ l).length := by
 by_cases h : l.take k = []
 ·rw [h]; simp [ko_]
 ·have h1 := s2_ _ h
  have h2 := s2_ l (fun e => h (by rw [e]; simp))
  have e : (l.map List.length).sum = ((l.take k).map List.length).sum + ((l.drop k).map List.length).sum := by
   conv => lhs; rw [← List.take_append_drop k l]
   rw [List.map_append, List.sum_append]
  have e2 : l.length = (l.take k).length + (l.drop k).length := by rw [← T2_, List.take_append_drop]
  omega
theorem wy_ (l : List Str) (hb : (cf_ l).length ≤ 1000000000000) (hn : l.length ≤ 1000000000000) : ACall En 117 [.sl false (bo_ l)] [] [.s (cf_ l)] [] := by
 refine aj_ (fn := Tryz.f117) [] Tryz.func117 rfl rfl (by simp) fun C => ?_
 rw [ay_]
 simp only [Tryz.ntmps117, T7_, List.length_nil, Nat.reduceAdd, Nat.reduceSub, List.replicate_succ, List.replicate_zero, List.cons_append, List.nil_append, bu_]
 refine .seq (.rgn [] (by simp only [go_sem, seval]; rfl) ?_ ?_)
 ·first | trivial | simp
 refine .seq (.rgn [a8_ (ahq_ l [10] hb hn)] (by simp only [go_sem, seval]; rfl) ?_ ?_)
 ·first | trivial | simp
 refine .ret ⟨.inr rfl, ?_⟩
 exact Out.plain (by simp only [Tryz.results117]; rfl) (by simp only [az_, bc_, go_sem, seval] <;> (split <;> rfl)) (by simp only [bb_, go_sem, seval] <;> (rfl)) (by simp only [go_sem, seval])
theorem ni_ (l : List Str) (hl : l.length < 1099511627776) (hb : (cf_ l).length < 1099511627776) : ACall En 67 [.sl false (bo_ l)] [] [.s (cf_ l)] [] := by
 refine aj_ (fn := Tryz.f67) [] Tryz.func67 rfl rfl (by simp) fun C => ?_
 rw [ay_]
 simp only [Tryz.ntmps67, T7_, List.length_nil, Nat.reduceAdd, Nat.reduceSub, List.replicate_succ, List.replicate_zero, List.cons_append, List.nil_append, bu_]
 refine .seq (.rgn [] (by simp only [go_sem, seval, ab_, aa_]; rfl) ?_ ?_)
 ·first | trivial | simp
 refine .seq (.rgn [] (by simp only [go_sem, seval, ab_, aa_]; rfl) ?_ ?_)
 ·first | trivial | simp
 refine .seq (.seq (.rgn [] (by simp only [go_sem, seval, ab_, aa_]; rfl) ?_ ?_))
 ·first | trivial | simp
 refine .block (.loopK (fun k : Nat => ⟨[.sl false (bo_ l), .no, .no, .s (cf_ (l.take k)), .i .i64 k, .no, .no, .no, .no, .no, .no, .no, .no, .no, .no, .no, .no, .no, .no, .no, .no, .no], bh_ [], us []⟩) (fun k : Nat => k ≤ l.length) (fun k : Nat => l.length - k) (0) ?_ ?_ (fun k hI => ?_))
 ·simp
 ·exact Can.weak (Weak.lit (by simp only [go_sem, seval, ab_, aa_, ar_, leV, ap_, aq_, V.inn, us, T9_, Ta_] <;> (simp [ko_])) (by simp only [go_sem, seval, ab_, aa_, ar_, leV, ap_, aq_, V.inn, us, T9_, Ta_]) (by simp only [go_sem, seval, ab_, aa_, ar_, leV, ap_, aq_, V.inn, us, T9_, Ta_]))
 refine .seq (.seq (.rgn [] (by simp only [go_sem, seval, ab_, aa_]; rfl) ?_ ?_))
 ·first | trivial | simp
 refine .condB (by simp only [go_sem, seval, ab_, aa_]; rfl) (by simp only [go_sem, seval, ab_, aa_]) (fun h8 => ?_) (fun h8 => ?_)
 ·refine .skip (.seq (.block (.seqJ (fun q : Str => ⟨[.sl false (bo_ l), .no, .no, .s q, .i .i64 k, .no, .no, .no, .no, .no, .no, .no, .no, .no, .no, .no, .no, .no, .no, .no, .no, .no], bh_ [], us []⟩) (fun q : Str => q = if 0 < k then cf_ (l.take k) ++ [10] else []) ?_ (fun q hJ => ?_))))
  ·refine .seq (.rgn [] (by simp only [go_sem, seval, ab_, aa_]; rfl) ?_ ?_)
   ·first | trivial | simp
   refine .condB (by simp only [go_sem, seval, ab_, aa_]; rfl) (by simp only [go_sem, seval, ab_, aa_]) (fun h12 => ?_) (fun h12 => ?_)
   ·refine .rgn [] (by simp only [go_sem, seval, ab_, aa_]; rfl) ?_ ?_
    ·have q := ad2_ (l := l) k; simp; omega
    refine Exists.intro (cf_ (l.take k) ++ [10]) ⟨?_, ?_⟩
    ·simp at h12; simp [h12]
    exact Can.weak (Weak.lit (by simp only [go_sem, seval, ab_, aa_, ar_, leV, ap_, aq_, V.inn, us, T9_, Ta_] <;> ((simp at h12; subst h12; simp [ko_]))) (by simp only [go_sem, seval, ab_, aa_, ar_, leV, ap_, aq_, V.inn, us, T9_, Ta_]) (by simp only [go_sem, seval, ab_, aa_, ar_, leV, ap_, aq_, V.inn, us, T9_, Ta_]))
   ·refine .skip ?_
    refine Exists.intro ([]) ⟨?_, ?_⟩
    ·simp at h12; simp [h12]
    exact Can.weak (Weak.lit (by simp only [go_sem, seval, ab_, aa_, ar_, leV, ap_, aq_, V.inn, us, T9_, Ta_] <;> ((simp at h12; subst h12; simp [ko_]))) (by simp only [go_sem, seval, ab_, aa_, ar_, leV, ap_, aq_, V.inn, us, T9_, Ta_]) (by simp only [go_sem, seval, ab_, aa_, ar_, leV, ap_, aq_, V.inn, us, T9_, Ta_]))
  refine .rgn [] (by simp only [go_sem, seval, ab_, aa_, cc_ (show k < l.length by simpa using h8)]; rfl) ?_ ?_
  ·have q1 := ad2_ (l := l) (k + 1); rw [aas_ (by simpa using h8), ← hJ, T2_] at q1; refine ⟨⟨by omega, by simpa using h8⟩, by omega⟩
  refine .rgn [] (by simp only [go_sem, seval, ab_, aa_]; rfl) ?_ ?_
  ·first | trivial | simp
  refine Exists.intro (k + 1) ⟨?_, ?_, ?_⟩
  ·simp at h8; omega
  ·simp at h8; omega
  exact Can.weak (Weak.lit (by simp only [go_sem, seval, ab_, aa_, ar_, leV, ap_, aq_, V.inn, us, T9_, Ta_] <;> (rw [bi_ (by simp at h8; omega) (by simp at h8; omega)]; refine ⟨?_, by simp⟩; first | (rw [hJ, aas_ (by simpa using h8)]; done))) (by simp only [go_sem, seval, ab_, aa_, ar_, leV, ap_, aq_, V.inn, us, T9_, Ta_]) (by simp only [go_sem, seval, ab_, aa_, ar_, leV, ap_, aq_, V.inn, us, T9_, Ta_]))
 ·refine .exit (.seq (.rgn [] (by simp only [go_sem, seval, ab_, aa_]; rfl) ?_ ?_))
  ·first | trivial | simp
  refine .ret ⟨.inr rfl, ?_⟩
  exact Out.plain (by simp only [Tryz.results67]; rfl) (by simp only [az_, bc_, go_sem, seval, ab_, aa_] <;> (split <;> rfl)) (by simp only [bb_, go_sem, seval, ab_, aa_] <;> (simp at h8; rw [T1_ h8])) (by simp only [go_sem, seval, ab_, aa_])
def o6_ (l : List Sl) : Str := if pok l then cf_ (l.map emT) else []
theorem ama_ (s : Sl) (h : sok s = true) (hs : ea_ s = true) : ACall En 87 [.ag (sC s)] [] [.s (emT s), .sl false (inR (emF s))] [] := by
 have := (amh_ s (dk_ h) hs).frz1 (rs' := [.s (emT s), .sl false (inR (emF s))]) (by simp [fu_, frz, ae_, T1_, emT, emF, h])
 exact this
end
end Go.Proofs.YtcigkafioinfoaaGreatDoor
