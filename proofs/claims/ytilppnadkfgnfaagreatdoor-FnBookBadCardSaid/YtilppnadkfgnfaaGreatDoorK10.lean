/- What the library's functions answer: strings.Contains for a newline. Conditions: none. -/
import Derived.Test.YtilppnadkfgnfaaGreatDoorKw
import Derived.Lib.IndexAny
import Derived.Test.YtilppnadkfgnfaaGreatDoorK7
import Derived.Test.YtilppnadkfgnfaaGreatDoorKq
import Derived.Test.YtilppnadkfgnfaaGreatDoorKh
import Derived.Test.YtilppnadkfgnfaaGreatDoorK8
import Derived.Test.YtilppnadkfgnfaaGreatDoorK6
import Derived.Test.YtilppnadkfgnfaaGreatDoorKo
set_option linter.unusedVariables false
set_option linter.unusedSimpArgs false
namespace Go.Proofs.YtilppnadkfgnfaaGreatDoor
section
open Go.RowKit
set_option maxRecDepth 100000
def qj_ (s : Str) : Bool := s.contains 10
theorem aij_ (s : Str) : ACall En 97 [.s s, .s [10]] [] [.b (qj_ s)] [] := by
 refine gv_ (fn := Tryz.f97) Tryz.func97 rfl rfl fun S w xs hx _ _ => ?_
 simp only [VRs, VR] at hx
 obtain ⟨x, r, e1, rfl, y, q, e2, rfl, rfl⟩ := hx
 subst e2
 obtain rfl : xs = #[.string ⟨s.toArray⟩, .string ⟨[10].toArray⟩] := by apply Array.ext'; simpa using e1
 refine (Tryz.strings_Contains_one ⟨s.toArray⟩ 10 w).mono ?_
 rintro e w' ⟨rfl, rfl⟩
 refine ⟨[_], rfl, Below.refl _ _, .cons ?_ .nil⟩
 simp only [VR, qj_]
 rw [Lib.contains_iff_indexByte]
end
section
set_option maxRecDepth 100000
set_option maxHeartbeats 4000000
theorem aa3_ : ACall En 140 [.sl false []] [] [.ow 0 1 0 0] [⟨3, 1, []⟩] := by
 refine al_ (fn := Tryz.f140) [17] Tryz.func140 rfl rfl (by simp) fun C => ?_
 rw [ay_]
 simp only [Tryz.ntmps140, T7_, List.length_nil, Nat.reduceAdd, Nat.reduceSub, List.replicate_succ, List.replicate_zero, List.cons_append, List.nil_append, bp_]
 refine .seq (.rgn [] (by simp only [go_sem, seval]; rfl) ?_ ?_)
 ·first | trivial | simp
 refine .seq (.seq (.rgnS [4] [nilO En] (by simp only [go_sem, seval]; rfl) ?_ ?_))
 ·first | trivial | simp
 refine .condQ (by simp only [go_sem, seval] <;> rfl) (by simp only [go_sem, seval]) ?_ ?_
 ·refine .seq (.rgn [] (by simp only [go_sem, seval]; rfl) ?_ ?_)
  ·first | trivial | simp
  refine .can (Can.ownSlot 2 17 3 1 (by simp only [go_sem, seval] <;> rfl) (by simp only [go_sem, seval]) (by simp only [go_sem, seval] <;> rfl)) ?_
  refine .ret ⟨.inr rfl, ?_⟩
  exact Out.mem' (by simp only [Tryz.results140]; rfl) (by simp only [az_, a7_, go_sem, seval]) (by simp only [a5_, rns, rn, go_sem, seval] <;> (simp)) (by simp) rfl (by decide) (by simp only [go_sem, seval]) (by simp only [ao_, go_sem, seval]) (by simp only [aj_, go_sem, seval] <;> (simp))
 ·refine .skip (.seq (.rgn [] (by simp only [go_sem, seval]; rfl) ?_ ?_))
  ·first | trivial | simp
  refine .ret ⟨.inr rfl, ?_⟩
  exact Out.mem' (by simp only [Tryz.results140]; rfl) (by simp only [az_, a7_, go_sem, seval]) (by simp only [a5_, rns, rn, go_sem, seval] <;> (simp)) (by simp) rfl (by decide) (by simp only [go_sem, seval]) (by simp only [ao_, go_sem, seval]) (by simp only [aj_, go_sem, seval] <;> (simp))
theorem abl_ (e : Int) (r : List Int) (hl : r.length < 1099511627776) : ACall En 140 [.sl false (inR (e :: r))] [] [.ow 0 1 0 (r.length + 1)] [⟨3, 1, inR (e :: r)⟩] := by
 refine al_ (fn := Tryz.f140) [17] Tryz.func140 rfl rfl (by simp) fun C => ?_
 rw [ay_]
 simp only [Tryz.ntmps140, T7_, List.length_nil, Nat.reduceAdd, Nat.reduceSub, List.replicate_succ, List.replicate_zero, List.cons_append, List.nil_append, bp_]
 refine .seq (.rgn [] (by simp only [go_sem, seval, ac_, ai_, av_, b4_, cf_, V.pure]; rfl) ?_ ?_)
 ·first | trivial | simp
 refine .seq (.seq (.rgnS [4] [nilO En] (by simp only [go_sem, seval, ac_, ai_, av_, b4_, cf_, V.pure]; rfl) ?_ ?_))
 ·first | trivial | simp
 refine .condB (by simp only [go_sem, seval, ac_, ai_, av_, b4_, cf_, V.pure]; rfl) (by simp only [go_sem, seval, ac_, ai_, av_, b4_, cf_, V.pure]) (fun h4 => ?_) (fun h4 => ?_)
 ·exact absurd h4 (by simp)
 ·refine .skip (.seq (.rgn [] (by simp only [go_sem, seval, ac_, ai_, av_, b4_, cf_, V.pure]; rfl) ?_ ?_))
  ·have := ai_ r; simp [av_, uy_]; omega
  refine .ret ⟨.inr rfl, ?_⟩
  exact Out.mem' (by simp only [Tryz.results140]; rfl) (by simp only [az_, a7_, go_sem, seval, ac_, ai_, av_, b4_, cf_, V.pure]) (by simp only [a5_, rns, rn, go_sem, seval, ac_, ai_, av_, b4_, cf_, V.pure] <;> (simp [ai_])) (by simp) rfl (by decide) (by simp only [go_sem, seval, ac_, ai_, av_, b4_, cf_, V.pure]) (by simp only [ao_, go_sem, seval, ac_, ai_, av_, b4_, cf_, V.pure]) (by simp only [aj_, go_sem, seval, ac_, ai_, av_, b4_, cf_, V.pure] <;> (simp [av_, b7_, ac_]))
theorem agd_ (l : List Int) (hl : l.length < 1099511627776) : ACall En 140 [.sl false (inR l)] [] [.ow 0 1 0 l.length] [⟨3, 1, inR l⟩] := by
 cases l with
 | nil => simp only [inR]; exact aa3_
 | cons e r => exact abl_ e r (by simp at hl; omega)
theorem yz_ (l : List Int) (hl : l.length < 1099511627776) : ACall En 68 [.ow 0 1 0 l.length] [⟨3, 1, inR l⟩] [.ow 0 1 0 l.length] [⟨3, 1, inR l⟩] := by
 refine al_ (fn := Tryz.f68) [0] Tryz.func68 rfl rfl (by simp) fun C => ?_
 rw [ay_]
 simp only [Tryz.ntmps68, T7_, List.length_nil, Nat.reduceAdd, Nat.reduceSub, List.replicate_succ, List.replicate_zero, List.cons_append, List.nil_append, bp_]
 refine .seq (.rgn [] (by simp only [go_sem, seval, ac_, ai_]; rfl) ?_ ?_)
 ·first | trivial | simp
 refine .seq (.rgn [] (by simp only [go_sem, seval, ac_, ai_]; rfl) ?_ ?_)
 ·first | trivial | simp
 refine .ret ⟨.inr rfl, ?_⟩
 exact Out.mem' (by simp only [Tryz.results68]; rfl) (by simp only [az_, a7_, go_sem, seval, ac_, ai_]) (by simp only [a5_, rns, rn, go_sem, seval, ac_, ai_] <;> (simp)) (by simp) rfl (by decide) (by simp only [go_sem, seval, ac_, ai_]) (by simp only [ao_, go_sem, seval, ac_, ai_]) (by simp only [aj_, go_sem, seval, ac_, ai_] <;> (simp [b7_, ac_]))
theorem aei_ (l : List Int) (hl : l.length < 1099511627776) : ACall En 99 [.sl false (inR l)] [] [.ow 0 1 0 l.length] [⟨3, 1, inR l⟩] := by
 refine al_ (fn := Tryz.f99) [14] Tryz.func99 rfl rfl (by simp) fun C => ?_
 rw [ay_]
 simp only [Tryz.ntmps99, T7_, List.length_nil, Nat.reduceAdd, Nat.reduceSub, List.replicate_succ, List.replicate_zero, List.cons_append, List.nil_append, bp_]
 refine .seq (.rgn [] (by simp only [go_sem, seval, ac_, ai_, aj_, ao_, b7_]; rfl) ?_ ?_)
 ·(first | trivial | (simp; done) | (simp [b7_, ac_, bd_]; done))
 refine .seq (.rgn [bu_ [] [14] (agd_ l hl), bu_ [14] [] (yz_ l hl)] (by simp only [go_sem, seval, ac_, ai_, aj_, ao_, b7_]; rfl) ?_ ?_)
 ·(first | trivial | (simp; done) | (simp [b7_, ac_, bd_]; done))
 refine .ret ⟨.inr rfl, ?_⟩
 exact Out.mem' (by simp only [Tryz.results99]; rfl) (by simp only [az_, a7_, go_sem, seval, ac_, ai_, aj_, ao_, b7_]) (by simp only [a5_, rns, rn, go_sem, seval, ac_, ai_, aj_, ao_, b7_] <;> (simp)) (by simp) rfl (by decide) (by simp only [go_sem, seval, ac_, ai_, aj_, ao_, b7_]) (by simp only [ao_, go_sem, seval, ac_, ai_, aj_, ao_, b7_]) (by simp only [aj_, go_sem, seval, ac_, ai_, aj_, ao_, b7_] <;> (simp [b7_, ac_]))
theorem aca_ (l : List Int) (hl : l.length < 1099511627776) : ACall En 99 [.sl false (inR l)] [] [.sl false (inR l)] [] :=
 (aei_ l hl).frz1 (by simp [gj_, frz, ai_, T1_])
structure Pg where
 line : Str
 good : Bool
 text : Str
 frm : List Int
deriving DecidableEq
def Pg0 : Pg := ⟨[], false, [], []⟩
def pgC (p : Pg) : List V := [.s p.line, .b p.good, .s p.text, .sl false (inR p.frm)]
def pgR (l : List Pg) : List (List V) := l.map pgC
theorem af_ (l : List Pg) : (pgR l).length = l.length := by simp [pgR]
theorem ad_ : ∀ l : List Pg, b4_ (pgR l) = true
 | [] => rfl
 | p :: l => by
  show b4_ (pgC p :: pgR l) = true
  simp only [b4_, pgC, cf_, V.pure, ac_, ad_ l, Bool.and_true]
theorem afn_ (p : Pg) : cf_ (pgC p) = true := by simp only [pgC, cf_, V.pure, ac_, Bool.and_true]
theorem cw_ {l : List Pg} {k : Nat} (h : k < l.length) : (pgR l).getD k [] = pgC (l.getD k Pg0) := by
 simp [pgR, T8_, T6_ h]
theorem ah_ (p : Pg) : pgC p = [.s p.line, .b p.good, .s p.text, .sl false (inR p.frm)] := rfl
def nx_ (s : Str) : Bool := tOk s && !qj_ s
theorem q0_ (s : Str) : qj_ s = decide (1 < (spl s).length) := by
 unfold qj_
 by_cases h : (10 : UInt8) ∈ s
 ·obtain ⟨a, b, rfl, ha⟩ := List.eq_append_cons_of_mem h
  rw [ly_ ha]
  have := List.length_pos_iff.2 (aj9_ b)
  simp; omega
 ·rw [i2_ h]; simpa using h
def e8_ (s : Str) : Pg := if nx_ s then (match c6_ s with | none => ⟨s, false, [], []⟩ | some x => ⟨s, true, emT x, emF x⟩) else Pg0
theorem vl_ (s : Str) (hs : s.length ≤ 281474976710656) : ACall En 63 [.s s] [] [.b (nx_ s)] [] := by
 refine al_ (fn := Tryz.f63) [] Tryz.func63 rfl rfl (by simp) fun C => ?_
 rw [ay_]
 simp only [Tryz.ntmps63, T7_, List.length_nil, Nat.reduceAdd, Nat.reduceSub, List.replicate_succ, List.replicate_zero, List.cons_append, List.nil_append, bp_]
 refine .seq (.rgn [] (by simp only [go_sem, seval]; rfl) ?_ ?_)
 ·first | trivial | simp
 refine .seq (.rgn [a4_ (rj_ s hs), a4_ (aij_ s)] (by simp only [go_sem, seval]; rfl) ?_ ?_)
 ·first | trivial | simp
 refine .ret ⟨.inr rfl, ?_⟩
 exact Out.plain (by simp only [Tryz.results63]; rfl) (by simp only [az_, a7_, go_sem, seval] <;> (split <;> rfl)) (by simp only [a5_, go_sem, seval] <;> (rfl)) (by simp only [go_sem, seval])
end
section
set_option maxRecDepth 100000
set_option maxHeartbeats 4000000
theorem wy_ (s : Str) : ep_ ((c6_ s).getD S0) = true := by
 cases h : c6_ s with
 | none => decide
 | some x =>
  by_cases hc : (br_ s).isSome = true ∧ sok (rdS (cz_ s)) = true ∧ d7_ (rdS (cz_ s)) = s
  ·rw [ov_ hc.1 hc.2.1 hc.2.2] at h
   cases h; exact afh_ (sp_ s).1
  ·rw [pm_ hc] at h; cases h
theorem vr_ {s : Str} (h : (c6_ s).isSome = true) : sok ((c6_ s).getD S0) = true := by
 cases hx : c6_ s with
 | none => rw [hx] at h; cases h
 | some x => exact (m0_.1 hx).1
theorem zp_ {s : Str} (h : nx_ s = false) : e8_ s = Pg0 := by unfold e8_; rw [h]; rfl
theorem oy_ {s : Str} (h : nx_ s = true) (h2 : (c6_ s).isSome = false) : e8_ s = ⟨s, false, [], []⟩ := by
 unfold e8_; rw [h]
 cases hx : c6_ s with
 | none => rfl
 | some x => rw [hx] at h2; cases h2
theorem sq_ {s : Str} (h : nx_ s = true) (h2 : (c6_ s).isSome = true) : e8_ s = ⟨s, true, emT ((c6_ s).getD S0), emF ((c6_ s).getD S0)⟩ := by
 unfold e8_; rw [h]
 cases hx : c6_ s with
 | none => rw [hx] at h2; cases h2
 | some x => rfl
theorem alj_ {s : Sl} (h : sok s = true) : (emF s).length = (bw (bof s)).length := by
 have q := gt_ (c9_ h)
 unfold emF; rw [if_pos h, ← ta_ (c9_ h), f3_]
 rw [← q.2, List.length_map]
theorem emFL {s : Sl} (h : sok s = true) : (emF s).length < 1000000 := by rw [alj_ h]; have := (ni_ (f9_ (c9_ h))).1; omega
theorem wt_ (s : Str) : (!tOk s || decide (((spl s).length : Int) > 1)) = !nx_ s := by
 unfold nx_; rw [q0_, Bool.not_and, Bool.not_not]; congr 1; exact decide_eq_decide.2 (by omega)
theorem sj_ (s : Str) (hs : s.length ≤ 281474976710656) : ACall En 65 [.s s] [] [.ag (pgC (e8_ s))] [] := by
 have X1 := wy_ s
 have X2 := @vr_ s
 have P1 := @zp_ s
 have P2 := @oy_ s
 have P3 := @sq_ s
 have R := vu_ s hs
 generalize (c6_ s).getD S0 = x at *
 generalize (c6_ s).isSome = ok at *
 refine al_ (fn := Tryz.f65) [] Tryz.func65 rfl rfl (by simp) fun C => ?_
 rw [ay_]
 simp only [Tryz.ntmps65, T7_, List.length_nil, Nat.reduceAdd, Nat.reduceSub, List.replicate_succ, List.replicate_zero, List.cons_append, List.nil_append, bp_]
 refine .seq (.rgn [] (by simp only [go_sem, seval, ak_, ac_, ah_]; rfl) ?_ ?_)
 ·(first | trivial | (simp; done) | (simpa using h17) | exact ⟨by simpa using h17, rfl⟩)
 refine .seq (.seq (.rgn [a4_ (vl_ s hs)] (by simp only [go_sem, seval, ak_, ac_, ah_]; rfl) ?_ ?_))
 ·(first | trivial | (simp; done) | (simpa using h17) | exact ⟨by simpa using h17, rfl⟩)
 refine .condB (by simp only [go_sem, seval, ak_, ac_, ah_]; rfl) (by simp only [go_sem, seval, ak_, ac_, ah_]) (fun h9 => ?_) (fun h9 => ?_)
 ·refine .seq (.rgn [] (by simp only [go_sem, seval, ak_, ac_, ah_]; rfl) ?_ ?_)
  ·(first | trivial | (simp; done) | (simpa using h17) | exact ⟨by simpa using h17, rfl⟩)
  refine .ret ⟨.inr rfl, ?_⟩
  exact Out.plainL (by simp only [Tryz.results65]; rfl) (by simp only [az_, a7_, go_sem, seval, ak_, ac_, ah_] <;> (split <;> rfl)) (by simp only [a5_, go_sem, seval, ak_, ac_, ah_] <;> (rw [P1 (by simpa using h9)]; simp [Pg0, les, leV, ler, inR])) (by simp only [go_sem, seval, ak_, ac_, ah_])
 ·refine .skip (.seq (.rgn [a4_ R] (by simp only [go_sem, seval, ak_, ac_, ah_]; rfl) ?_ ?_))
  ·(first | trivial | (simp; done) | (simpa using h17) | exact ⟨by simpa using h17, rfl⟩)
  refine .seq (.seq (.rgn [] (by simp only [go_sem, seval, ak_, ac_, ah_]; rfl) ?_ ?_))
  ·(first | trivial | (simp; done) | (simpa using h17) | exact ⟨by simpa using h17, rfl⟩)
  refine .condB (by simp only [go_sem, seval, ak_, ac_, ah_]; rfl) (by simp only [go_sem, seval, ak_, ac_, ah_]) (fun h17 => ?_) (fun h17 => ?_)
  ·refine .seq (.rgn [] (by simp only [go_sem, seval, ak_, ac_, ah_]; rfl) ?_ ?_)
   ·(first | trivial | (simp; done) | (simpa using h17) | exact ⟨by simpa using h17, rfl⟩)
   refine .ret ⟨.inr rfl, ?_⟩
   exact Out.plainL (by simp only [Tryz.results65]; rfl) (by simp only [az_, a7_, go_sem, seval, ak_, ac_, ah_] <;> (split <;> rfl)) (by simp only [a5_, go_sem, seval, ak_, ac_, ah_] <;> (rw [P2 (by simpa using h9) (by simpa using h17)]; simp [les, leV, ler, inR])) (by simp only [go_sem, seval, ak_, ac_, ah_])
  ·refine .skip (.seq (.rgn [cg_ (ok = true) (fun h => akl_ x (X2 h) X1)] (by simp only [go_sem, seval, ak_, ac_, ah_]; rfl) ?_ ?_))
   ·(first | trivial | (simp; done) | (simpa using h17) | exact ⟨by simpa using h17, rfl⟩)
   refine .seq (.rgn [cg_ (ok = true) (fun h => aca_ (emF x) (by have := emFL (X2 h); omega))] (by simp only [go_sem, seval, ak_, ac_, ah_]; rfl) ?_ ?_)
   ·(first | trivial | (simp; done) | (simpa using h17) | exact ⟨by simpa using h17, rfl⟩)
   refine .ret ⟨.inr rfl, ?_⟩
   exact Out.plainL (by simp only [Tryz.results65]; rfl) (by simp only [az_, a7_, go_sem, seval, ak_, ac_, ah_] <;> (split <;> rfl)) (by simp only [a5_, go_sem, seval, ak_, ac_, ah_] <;> (rw [P3 (by simpa using h9) (by simpa using h17)]; simp [les, leV, ler, bd_])) (by simp only [go_sem, seval, ak_, ac_, ah_])
theorem r8_ (s : Str) (hs : s.length ≤ 281474976710656) : ACall En 59 [.s s] [] [.ag (pgC (e8_ s))] [] := by
 have X1 := wy_ s
 have X2 := @vr_ s
 have P1 := @zp_ s
 have P2 := @oy_ s
 have P3 := @sq_ s
 have R := ws_ s hs
 have hn := q0_ s
 have hI : nx_ s = (tOk s && !qj_ s) := rfl
 generalize (c6_ s).getD S0 = x at *
 generalize (c6_ s).isSome = ok at *
 refine al_ (fn := Tryz.f59) [] Tryz.func59 rfl rfl (by simp) fun C => ?_
 rw [ay_]
 simp only [Tryz.ntmps59, T7_, List.length_nil, Nat.reduceAdd, Nat.reduceSub, List.replicate_succ, List.replicate_zero, List.cons_append, List.nil_append, bp_]
 refine .seq (.rgn [] (by simp only [go_sem, seval, ak_, ac_, ah_, ab_, aa_]; rfl) ?_ ?_)
 ·first | trivial | simp
 refine .seq (.seq (.rgn [a4_ (mw_ s hs), cg_ (tOk s = true) (fun h => pu_ s (lp_ h))] (by simp only [go_sem, seval, ak_, ac_, ah_, ab_, aa_]; rfl) ?_ ?_))
 ·first | trivial | simp
 refine .condB (by simp only [go_sem, seval, ak_, ac_, ah_, ab_, aa_]; rfl) (by simp only [go_sem, seval, ak_, ac_, ah_, ab_, aa_]) (fun h15 => ?_) (fun h15 => ?_)
 ·refine .seq (.rgn [] (by simp only [go_sem, seval, ak_, ac_, ah_, ab_, aa_]; rfl) ?_ ?_)
  ·first | trivial | simp
  refine .ret ⟨.inr rfl, ?_⟩
  exact Out.plainL (by simp only [Tryz.results59]; rfl) (by simp only [az_, a7_, go_sem, seval, ak_, ac_, ah_, ab_, aa_] <;> (split <;> rfl)) (by simp only [a5_, go_sem, seval, ak_, ac_, ah_, ab_, aa_] <;> (rw [wt_] at h15; rw [P1 (by simpa using h15)]; simp [Pg0, les, leV, ler, inR])) (by simp only [go_sem, seval, ak_, ac_, ah_, ab_, aa_])
 ·refine .skip (.seq (.rgn [a4_ R] (by simp only [go_sem, seval, ak_, ac_, ah_, ab_, aa_]; rfl) ?_ ?_))
  ·first | trivial | simp
  refine .seq (.seq (.rgn [] (by simp only [go_sem, seval, ak_, ac_, ah_, ab_, aa_]; rfl) ?_ ?_))
  ·first | trivial | simp
  refine .condB (by simp only [go_sem, seval, ak_, ac_, ah_, ab_, aa_]; rfl) (by simp only [go_sem, seval, ak_, ac_, ah_, ab_, aa_]) (fun h23 => ?_) (fun h23 => ?_)
  ·refine .seq (.rgn [] (by simp only [go_sem, seval, ak_, ac_, ah_, ab_, aa_]; rfl) ?_ ?_)
   ·first | trivial | simp
   refine .ret ⟨.inr rfl, ?_⟩
   exact Out.plainL (by simp only [Tryz.results59]; rfl) (by simp only [az_, a7_, go_sem, seval, ak_, ac_, ah_, ab_, aa_] <;> (split <;> rfl)) (by simp only [a5_, go_sem, seval, ak_, ac_, ah_, ab_, aa_] <;> (rw [wt_] at h15; rw [P2 (by simpa using h15) (by simpa using h23)]; simp [les, leV, ler, inR])) (by simp only [go_sem, seval, ak_, ac_, ah_, ab_, aa_])
  ·refine .skip (.seq (.rgn [a4_ (ul_ x X1)] (by simp only [go_sem, seval, ak_, ac_, ah_, ab_, aa_]; rfl) ?_ ?_))
   ·first | trivial | simp
   refine .seq (.rgn [] (by simp only [go_sem, seval, ak_, ac_, ah_, ab_, aa_]; rfl) ?_ ?_)
   ·first | trivial | simp
   refine .ret ⟨.inr rfl, ?_⟩
   exact Out.plainL (by simp only [Tryz.results59]; rfl) (by simp only [az_, a7_, go_sem, seval, ak_, ac_, ah_, ab_, aa_] <;> (split <;> rfl)) (by simp only [a5_, go_sem, seval, ak_, ac_, ah_, ab_, aa_] <;> (rw [wt_] at h15; rw [P3 (by simpa using h15) (by simpa using h23)]; simp [les, leV, ler, bd_])) (by simp only [go_sem, seval, ak_, ac_, ah_, ab_, aa_])
theorem cx_ {a b : Pg} (h : (((!(a.line == b.line) || !(a.good == b.good)) || !(a.text == b.text)) || ((a.frm.length : Int) != (b.frm.length : Int))) = false) : a.line = b.line ∧ a.good = b.good ∧ a.text = b.text ∧ a.frm.length = b.frm.length := by
 simp only [Bool.or_eq_false_iff, Bool.not_eq_false', beq_iff_eq, bne_eq_false_iff_eq] at h
 exact ⟨h.1.1.1, h.1.1.2, h.1.2, by omega⟩
theorem aki_ {a b : Pg} (h : a.line = b.line ∧ a.good = b.good ∧ a.text = b.text ∧ a.frm.length = b.frm.length) {j : Nat} (hj : a.frm.length ≤ j) (hf : a.frm.take j = b.frm.take j) : a = b := by
 obtain ⟨l, g, t, f⟩ := a
 obtain ⟨l', g', t', f'⟩ := b
 obtain ⟨rfl, rfl, rfl, hl⟩ := h
 dsimp only at hl hj hf
 rw [T1_ hj, T1_ (by omega)] at hf
 rw [hf]
theorem cj_ {α β : Type} {a : List α} {b : List β} (h : ((a.length : Int) != (b.length : Int)) = false) : a.length = b.length := by
 rw [bne_eq_false_iff_eq] at h; omega
theorem am9_ (a b : List Pg) (ha : a.length ≤ 1000000) (hb : b.length ≤ 1000000) (hA : ∀ p ∈ a, p.frm.length ≤ 4000000) : ACall En 32 [.sl false (pgR a), .sl false (pgR b)] [] [.b (decide (a = b))] [] := by
 refine al_ (fn := Tryz.f32) [] Tryz.func32 rfl rfl (by simp) fun C => ?_
 rw [ay_]
 simp only [Tryz.ntmps32, T7_, List.length_nil, Nat.reduceAdd, Nat.reduceSub, List.replicate_succ, List.replicate_zero, List.cons_append, List.nil_append, bp_]
 refine .seq (.rgn [] (by simp only [go_sem, seval, af_, ad_, ai_, ac_, ah_]; rfl) ?_ ?_)
 ·(first | trivial | (simp; done) | (have q := cj_ h11; simp only [T3_] at h15; and_intros <;> first | omega | exact fun h => ⟨h, by omega, by omega⟩ | exact fun h => by rw [h]; rfl) | (have q := cj_ h11; have q2 := (cx_ h69).2.2.2; simp only [T3_] at h15 h77; and_intros <;> omega))
 refine .seq (.seq (.rgn [] (by simp only [go_sem, seval, af_, ad_, ai_, ac_, ah_]; rfl) ?_ ?_))
 ·(first | trivial | (simp; done) | (have q := cj_ h11; simp only [T3_] at h15; and_intros <;> first | omega | exact fun h => ⟨h, by omega, by omega⟩ | exact fun h => by rw [h]; rfl) | (have q := cj_ h11; have q2 := (cx_ h69).2.2.2; simp only [T3_] at h15 h77; and_intros <;> omega))
 refine .condB (by simp only [go_sem, seval, af_, ad_, ai_, ac_, ah_]; rfl) (by simp only [go_sem, seval, af_, ad_, ai_, ac_, ah_]) (fun h11 => ?_) (fun h11 => ?_)
 ·refine .seq (.rgn [] (by simp only [go_sem, seval, af_, ad_, ai_, ac_, ah_]; rfl) ?_ ?_)
  ·(first | trivial | (simp; done) | (have q := cj_ h11; simp only [T3_] at h15; and_intros <;> first | omega | exact fun h => ⟨h, by omega, by omega⟩ | exact fun h => by rw [h]; rfl) | (have q := cj_ h11; have q2 := (cx_ h69).2.2.2; simp only [T3_] at h15 h77; and_intros <;> omega))
  refine .ret ⟨.inr rfl, ?_⟩
  exact Out.plain (by simp only [Tryz.results32]; rfl) (by simp only [az_, a7_, go_sem, seval, af_, ad_, ai_, ac_, ah_] <;> (split <;> rfl)) (by simp only [a5_, go_sem, seval, af_, ad_, ai_, ac_, ah_] <;> (rw [decide_eq_false]; rintro rfl; simp at h11)) (by simp only [go_sem, seval, af_, ad_, ai_, ac_, ah_])
 ·refine .skip (.seq (.seq (.rgn [] (by simp only [go_sem, seval, af_, ad_, ai_, ac_, ah_]; rfl) ?_ ?_)))
  ·(first | trivial | (simp; done) | (have q := cj_ h11; simp only [T3_] at h15; and_intros <;> first | omega | exact fun h => ⟨h, by omega, by omega⟩ | exact fun h => by rw [h]; rfl) | (have q := cj_ h11; have q2 := (cx_ h69).2.2.2; simp only [T3_] at h15 h77; and_intros <;> omega))
  refine .block (.loopK (fun k : Nat => ⟨[.sl false (pgR a), .sl false (pgR b), .no, .no, .no, .i .i64 k, .no, .no, .no, .no, .no, .no, .no, .no, .no, .no, .no, .no, .no, .no, .no, .no, .no, .no, .no, .no, .no, .no, .no, .no, .no, .no, .no, .no, .no, .no, .no, .no, .no, .no, .no, .no, .no, .no, .no, .no, .no, .no, .no, .no, .no, .no, .no, .no, .no, .no, .no, .no, .no, .no, .no, .no, .no, .no, .no, .no, .no, .no, .no, .no, .no, .no, .no, .no, .no, .no, .no, .no, .no, .no, .no, .no, .no, .no, .no, .no, .no, .no, .no, .no, .no, .no, .no, .no, .no, .no, .no], bc_ [], us []⟩) (fun k : Nat => k ≤ a.length ∧ a.take k = b.take k) (fun k : Nat => a.length - k) (0) ?_ ?_ (fun k hI => ?_))
  ·exact ⟨Nat.zero_le _, rfl⟩
  ·exact Can.weak (Weak.lit (by simp only [go_sem, seval, af_, ad_, ai_, ac_, ah_, as_, leV, aq_, ar_, V.inn, us, T9_, Ta_] <;> ((try simp))) (by simp only [go_sem, seval, af_, ad_, ai_, ac_, ah_, as_, leV, aq_, ar_, V.inn, us, T9_, Ta_]) (by simp only [go_sem, seval, af_, ad_, ai_, ac_, ah_, as_, leV, aq_, ar_, V.inn, us, T9_, Ta_]))
  refine .seq (.seq (.rgn [] (by simp only [go_sem, seval, af_, ad_, ai_, ac_, ah_]; rfl) ?_ ?_))
  ·(first | trivial | (simp; done) | (have q := cj_ h11; simp only [T3_] at h15; and_intros <;> first | omega | exact fun h => ⟨h, by omega, by omega⟩ | exact fun h => by rw [h]; rfl) | (have q := cj_ h11; have q2 := (cx_ h69).2.2.2; simp only [T3_] at h15 h77; and_intros <;> omega))
  refine .condB (by simp only [go_sem, seval, af_, ad_, ai_, ac_, ah_]; rfl) (by simp only [go_sem, seval, af_, ad_, ai_, ac_, ah_]) (fun h15 => ?_) (fun h15 => ?_)
  ·refine .skip (.seq (.block (.seq (.seq (.rgnD [] enM (by simp only [go_sem, seval, af_, ad_, ai_, ac_, ah_, cw_ (show k < a.length by simpa using h15), cw_ (show k < b.length by have q := cj_ h11; simp only [T3_] at h15; omega)]; rfl) (by rfl) ?_ ?_)))))
   ·(first | trivial | (simp; done) | (have q := cj_ h11; simp only [T3_] at h15; and_intros <;> first | omega | exact fun h => ⟨h, by omega, by omega⟩ | exact fun h => by rw [h]; rfl) | (have q := cj_ h11; have q2 := (cx_ h69).2.2.2; simp only [T3_] at h15 h77; and_intros <;> omega))
   refine .condB (by simp only [go_sem, seval, af_, ad_, ai_, ac_, ah_]; rfl) (by simp only [go_sem, seval, af_, ad_, ai_, ac_, ah_]) (fun h69 => ?_) (fun h69 => ?_)
   ·refine .seq (.rgn [] (by simp only [go_sem, seval, af_, ad_, ai_, ac_, ah_]; rfl) ?_ ?_)
    ·(first | trivial | (simp; done) | (have q := cj_ h11; simp only [T3_] at h15; and_intros <;> first | omega | exact fun h => ⟨h, by omega, by omega⟩ | exact fun h => by rw [h]; rfl) | (have q := cj_ h11; have q2 := (cx_ h69).2.2.2; simp only [T3_] at h15 h77; and_intros <;> omega))
    refine .ret ⟨.inr rfl, ?_⟩
    exact Out.plain (by simp only [Tryz.results32]; rfl) (by simp only [az_, a7_, go_sem, seval, af_, ad_, ai_, ac_, ah_] <;> (split <;> rfl)) (by simp only [a5_, go_sem, seval, af_, ad_, ai_, ac_, ah_] <;> (rw [decide_eq_false]; rintro rfl; simp at h69)) (by simp only [go_sem, seval, af_, ad_, ai_, ac_, ah_])
   ·refine .skip (.seq (.rgn [] (by simp only [go_sem, seval, af_, ad_, ai_, ac_, ah_]; rfl) ?_ ?_))
    ·(first | trivial | (simp; done) | (have q := cj_ h11; simp only [T3_] at h15; and_intros <;> first | omega | exact fun h => ⟨h, by omega, by omega⟩ | exact fun h => by rw [h]; rfl) | (have q := cj_ h11; have q2 := (cx_ h69).2.2.2; simp only [T3_] at h15 h77; and_intros <;> omega))
    refine .block (.loopK (fun j : Nat => ⟨[.sl false (pgR a), .sl false (pgR b), .no, .no, .no, .i .i64 k, .i .i64 j, .no, .no, .no, .no, .no, .no, .no, .no, .no, .no, .no, .no, .no, .no, .no, .no, .no, .no, .no, .no, .no, .no, .no, .no, .no, .no, .no, .no, .no, .no, .no, .no, .no, .no, .no, .no, .no, .no, .no, .no, .no, .no, .no, .no, .no, .no, .no, .no, .no, .no, .no, .no, .no, .no, .no, .no, .no, .no, .no, .no, .no, .no, .no, .no, .no, .no, .no, .no, .no, .no, .no, .no, .no, .no, .no, .no, .no, .no, .no, .no, .no, .no, .no, .no, .no, .no, .no, .no, .no, .no], bc_ [], us []⟩) (fun j : Nat => k ≤ a.length ∧ a.take k = b.take k ∧ j ≤ (a.getD k Pg0).frm.length ∧ (a.getD k Pg0).frm.take j = (b.getD k Pg0).frm.take j) (fun j : Nat => (a.getD k Pg0).frm.length - j) (0) ?_ ?_ (fun j hI => ?_))
    ·exact ⟨hI.1, hI.2, Nat.zero_le _, rfl⟩
    ·exact Can.weak (Weak.lit (by simp only [go_sem, seval, af_, ad_, ai_, ac_, ah_, as_, leV, aq_, ar_, V.inn, us, T9_, Ta_] <;> ((try simp))) (by simp only [go_sem, seval, af_, ad_, ai_, ac_, ah_, as_, leV, aq_, ar_, V.inn, us, T9_, Ta_]) (by simp only [go_sem, seval, af_, ad_, ai_, ac_, ah_, as_, leV, aq_, ar_, V.inn, us, T9_, Ta_]))
    refine .seq (.seq (.rgn [] (by simp only [go_sem, seval, af_, ad_, ai_, ac_, ah_, cw_ (show k < a.length by simpa using h15)]; rfl) ?_ ?_))
    ·(first | trivial | (simp; done) | (have q := cj_ h11; simp only [T3_] at h15; and_intros <;> first | omega | exact fun h => ⟨h, by omega, by omega⟩ | exact fun h => by rw [h]; rfl) | (have q := cj_ h11; have q2 := (cx_ h69).2.2.2; simp only [T3_] at h15 h77; and_intros <;> omega))
    refine .condB (by simp only [go_sem, seval, af_, ad_, ai_, ac_, ah_]; rfl) (by simp only [go_sem, seval, af_, ad_, ai_, ac_, ah_]) (fun h77 => ?_) (fun h77 => ?_)
    ·refine .skip (.seq (.block (.seq (.rgnD [] enM (by simp only [go_sem, seval, af_, ad_, ai_, ac_, ah_, cw_ (show k < a.length by simpa using h15), cw_ (show k < b.length by have q := cj_ h11; simp only [T3_] at h15; omega), d0_ (show j < (a.getD k Pg0).frm.length by simpa using h77), d0_ (show j < (b.getD k Pg0).frm.length by have q := (cx_ h69).2.2.2; simp only [T3_] at h77; omega)]; rfl) (by rfl) ?_ ?_))))
     ·(first | trivial | (simp; done) | (have q := cj_ h11; simp only [T3_] at h15; and_intros <;> first | omega | exact fun h => ⟨h, by omega, by omega⟩ | exact fun h => by rw [h]; rfl) | (have q := cj_ h11; have q2 := (cx_ h69).2.2.2; simp only [T3_] at h15 h77; and_intros <;> omega))
     refine .condB (by simp only [go_sem, seval, af_, ad_, ai_, ac_, ah_]; rfl) (by simp only [go_sem, seval, af_, ad_, ai_, ac_, ah_]) (fun h96 => ?_) (fun h96 => ?_)
     ·refine .seq (.rgn [] (by simp only [go_sem, seval, af_, ad_, ai_, ac_, ah_]; rfl) ?_ ?_)
      ·(first | trivial | (simp; done) | (have q := cj_ h11; simp only [T3_] at h15; and_intros <;> first | omega | exact fun h => ⟨h, by omega, by omega⟩ | exact fun h => by rw [h]; rfl) | (have q := cj_ h11; have q2 := (cx_ h69).2.2.2; simp only [T3_] at h15 h77; and_intros <;> omega))
      refine .ret ⟨.inr rfl, ?_⟩
      exact Out.plain (by simp only [Tryz.results32]; rfl) (by simp only [az_, a7_, go_sem, seval, af_, ad_, ai_, ac_, ah_] <;> (split <;> rfl)) (by simp only [a5_, go_sem, seval, af_, ad_, ai_, ac_, ah_] <;> (rw [decide_eq_false]; rintro rfl; simp at h96)) (by simp only [go_sem, seval, af_, ad_, ai_, ac_, ah_])
     ·refine .skip (.rgn [] (by simp only [go_sem, seval, af_, ad_, ai_, ac_, ah_]; rfl) ?_ ?_)
      ·(first | trivial | (simp; done) | (have q := cj_ h11; simp only [T3_] at h15; and_intros <;> first | omega | exact fun h => ⟨h, by omega, by omega⟩ | exact fun h => by rw [h]; rfl) | (have q := cj_ h11; have q2 := (cx_ h69).2.2.2; simp only [T3_] at h15 h77; and_intros <;> omega))
      refine Exists.intro (j + 1) ⟨?_, ?_, ?_⟩
      ·have q2 := (cx_ h69).2.2.2; simp only [T3_] at h77; exact ⟨hI.1, hI.2.1, by omega, l6_ (d := 0) (by omega) (by omega) hI.2.2.2 (bne_eq_false_iff_eq.1 h96)⟩
      ·simp only [T3_] at h77; omega
      exact Can.weak (Weak.lit (by simp only [go_sem, seval, af_, ad_, ai_, ac_, ah_, as_, leV, aq_, ar_, V.inn, us, T9_, Ta_] <;> (simp only [T3_] at h77 h15; have := hA _ (bj_ (d := Pg0) (show k < a.length by omega)); exact bf_ (n := ((j + 1 : Nat) : Int)) (by omega) (by omega))) (by simp only [go_sem, seval, af_, ad_, ai_, ac_, ah_, as_, leV, aq_, ar_, V.inn, us, T9_, Ta_]) (by simp only [go_sem, seval, af_, ad_, ai_, ac_, ah_, as_, leV, aq_, ar_, V.inn, us, T9_, Ta_]))
    ·refine .exit (.rgn [] (by simp only [go_sem, seval, af_, ad_, ai_, ac_, ah_]; rfl) ?_ ?_)
     ·(first | trivial | (simp; done) | (have q := cj_ h11; simp only [T3_] at h15; and_intros <;> first | omega | exact fun h => ⟨h, by omega, by omega⟩ | exact fun h => by rw [h]; rfl) | (have q := cj_ h11; have q2 := (cx_ h69).2.2.2; simp only [T3_] at h15 h77; and_intros <;> omega))
     refine Exists.intro (k + 1) ⟨?_, ?_, ?_⟩
     ·have q := cj_ h11; simp only [T3_] at h15; simp only [T4_] at h77; exact ⟨by omega, l6_ (d := Pg0) (by omega) (by omega) hI.2.1 (aki_ (cx_ h69) (by omega) hI.2.2.2)⟩
     ·simp only [T3_] at h15; omega
     exact Can.weak (Weak.lit (by simp only [go_sem, seval, af_, ad_, ai_, ac_, ah_, as_, leV, aq_, ar_, V.inn, us, T9_, Ta_] <;> (simp only [T3_] at h15; exact bf_ (n := ((k + 1 : Nat) : Int)) (by omega) (by omega))) (by simp only [go_sem, seval, af_, ad_, ai_, ac_, ah_, as_, leV, aq_, ar_, V.inn, us, T9_, Ta_]) (by simp only [go_sem, seval, af_, ad_, ai_, ac_, ah_, as_, leV, aq_, ar_, V.inn, us, T9_, Ta_]))
  ·refine .exit (.seq (.rgn [] (by simp only [go_sem, seval, af_, ad_, ai_, ac_, ah_]; rfl) ?_ ?_))
   ·(first | trivial | (simp; done) | (have q := cj_ h11; simp only [T3_] at h15; and_intros <;> first | omega | exact fun h => ⟨h, by omega, by omega⟩ | exact fun h => by rw [h]; rfl) | (have q := cj_ h11; have q2 := (cx_ h69).2.2.2; simp only [T3_] at h15 h77; and_intros <;> omega))
   refine .ret ⟨.inr rfl, ?_⟩
   exact Out.plain (by simp only [Tryz.results32]; rfl) (by simp only [az_, a7_, go_sem, seval, af_, ad_, ai_, ac_, ah_] <;> (split <;> rfl)) (by simp only [a5_, go_sem, seval, af_, ad_, ai_, ac_, ah_] <;> (have q := cj_ h11; simp only [T4_] at h15; have e := hI.2; rw [T1_ (by omega), T1_ (by omega)] at e; rw [decide_eq_true e])) (by simp only [go_sem, seval, af_, ad_, ai_, ac_, ah_])
end
end Go.Proofs.YtilppnadkfgnfaaGreatDoor
