/- What the library's functions answer: strings.Contains for a newline. Conditions: none. -/
import Derived.Test.YtefmbmafdgedmaaGreatDoorNv
import Derived.Lib.IndexAny
import Derived.Test.YtefmbmafdgedmaaGreatDoorN7
import Derived.Test.YtefmbmafdgedmaaGreatDoorNq
import Derived.Test.YtefmbmafdgedmaaGreatDoorNh
import Derived.Test.YtefmbmafdgedmaaGreatDoorN6
import Derived.Test.YtefmbmafdgedmaaGreatDoorNo
set_option linter.unusedVariables false
set_option linter.unusedSimpArgs false
namespace Go.Proofs.YtefmbmafdgedmaaGreatDoor
section
open Go.RowKit
set_option maxRecDepth 100000
def p8_ (s : Str) : Bool := s.contains 10
theorem afa_ (s : Str) : ACall En 164 [.s s, .s [10]] [] [.b (p8_ s)] [] := by
 refine gp_ (fn := Tryz.f164) Tryz.func164 rfl rfl fun S w xs hx _ _ => ?_
 simp only [VRs, VR] at hx
 obtain ⟨x, r, e1, rfl, y, q, e2, rfl, rfl⟩ := hx
 subst e2
 obtain rfl : xs = #[.string ⟨s.toArray⟩, .string ⟨[10].toArray⟩] := by apply Array.ext'; simpa using e1
 refine (Tryz.strings_Contains_one ⟨s.toArray⟩ 10 w).mono ?_
 rintro e w' ⟨rfl, rfl⟩
 refine ⟨[_], rfl, Below.refl _ _, .cons ?_ .nil⟩
 simp only [VR, p8_]
 rw [Lib.contains_iff_indexByte]
end
section
set_option maxRecDepth 100000
set_option maxHeartbeats 4000000
theorem yo_ : ACall En 180 [.sl false []] [] [.ow 0 1 0 0] [⟨3, 1, []⟩] := by
 refine ah_ (fn := Tryz.f180) [17] Tryz.func180 rfl rfl (by simp) fun C => ?_
 rw [ar_]
 simp only [Tryz.ntmps180, List.length_cons, List.length_nil, Nat.reduceAdd, Nat.reduceSub, List.replicate_succ, List.replicate_zero, List.cons_append, List.nil_append, bd_]
 refine .seq (.rgn [] (by simp only [go_sem, seval]; rfl) ?_ ?_)
 ·first | trivial | simp
 refine .seq (.seq (.rgnS [4] [nilO En] (by simp only [go_sem, seval]; rfl) ?_ ?_))
 ·first | trivial | simp
 refine .condQ (by simp only [go_sem, seval] <;> rfl) (by simp only [go_sem, seval]) ?_ ?_
 ·refine .seq (.rgn [] (by simp only [go_sem, seval]; rfl) ?_ ?_)
  ·first | trivial | simp
  refine .can (Can.ownSlot 2 17 3 1 (by simp only [go_sem, seval] <;> rfl) (by simp only [go_sem, seval]) (by simp only [go_sem, seval] <;> rfl)) ?_
  refine .ret ⟨.inr rfl, ?_⟩
  exact Out.mem' (by simp only [Tryz.results180]; rfl) (by simp only [aq_, a8_, go_sem, seval]) (by simp only [a7_, rns, rn, go_sem, seval] <;> (simp)) (by simp) rfl (by decide) (by simp only [go_sem, seval]) (by simp only [ay_, go_sem, seval]) (by simp only [as_, go_sem, seval] <;> (simp))
 ·refine .skip (.seq (.rgn [] (by simp only [go_sem, seval]; rfl) ?_ ?_))
  ·first | trivial | simp
  refine .ret ⟨.inr rfl, ?_⟩
  exact Out.mem' (by simp only [Tryz.results180]; rfl) (by simp only [aq_, a8_, go_sem, seval]) (by simp only [a7_, rns, rn, go_sem, seval] <;> (simp)) (by simp) rfl (by decide) (by simp only [go_sem, seval]) (by simp only [ay_, go_sem, seval]) (by simp only [as_, go_sem, seval] <;> (simp))
theorem zf_ (e : Int) (r : List Int) (hl : r.length < 1099511627776) : ACall En 180 [.sl false (inR (e :: r))] [] [.ow 0 1 0 (r.length + 1)] [⟨3, 1, inR (e :: r)⟩] := by
 refine ah_ (fn := Tryz.f180) [17] Tryz.func180 rfl rfl (by simp) fun C => ?_
 rw [ar_]
 simp only [Tryz.ntmps180, List.length_cons, List.length_nil, Nat.reduceAdd, Nat.reduceSub, List.replicate_succ, List.replicate_zero, List.cons_append, List.nil_append, bd_]
 refine .seq (.rgn [] (by simp only [go_sem, seval, ac_, af_, eb_, cf_, cv_, V.pure]; rfl) ?_ ?_)
 ·first | trivial | simp
 refine .seq (.seq (.rgnS [4] [nilO En] (by simp only [go_sem, seval, ac_, af_, eb_, cf_, cv_, V.pure]; rfl) ?_ ?_))
 ·first | trivial | simp
 refine .condB (by simp only [go_sem, seval, ac_, af_, eb_, cf_, cv_, V.pure]; rfl) (by simp only [go_sem, seval, ac_, af_, eb_, cf_, cv_, V.pure]) (fun h4 => ?_) (fun h4 => ?_)
 ·exact absurd h4 (by simp)
 ·refine .skip (.seq (.rgn [] (by simp only [go_sem, seval, ac_, af_, eb_, cf_, cv_, V.pure]; rfl) ?_ ?_))
  ·have := af_ r; simp [eb_, us_]; omega
  refine .ret ⟨.inr rfl, ?_⟩
  exact Out.mem' (by simp only [Tryz.results180]; rfl) (by simp only [aq_, a8_, go_sem, seval, ac_, af_, eb_, cf_, cv_, V.pure]) (by simp only [a7_, rns, rn, go_sem, seval, ac_, af_, eb_, cf_, cv_, V.pure] <;> (simp [af_])) (by simp) rfl (by decide) (by simp only [go_sem, seval, ac_, af_, eb_, cf_, cv_, V.pure]) (by simp only [ay_, go_sem, seval, ac_, af_, eb_, cf_, cv_, V.pure]) (by simp only [as_, go_sem, seval, ac_, af_, eb_, cf_, cv_, V.pure] <;> (simp [eb_, ci_, ac_]))
theorem aaz_ (l : List Int) (hl : l.length < 1099511627776) : ACall En 180 [.sl false (inR l)] [] [.ow 0 1 0 l.length] [⟨3, 1, inR l⟩] := by
 cases l with
 | nil => simp only [inR]; exact yo_
 | cons e r => exact zf_ e r (by simp at hl; omega)
theorem af2_ (l : List Int) (hl : l.length < 1099511627776) : ACall En 179 [.ow 0 1 0 l.length] [⟨3, 1, inR l⟩] [.ow 0 1 0 l.length] [⟨3, 1, inR l⟩] := by
 refine ah_ (fn := Tryz.f179) [0] Tryz.func179 rfl rfl (by simp) fun C => ?_
 rw [ar_]
 simp only [Tryz.ntmps179, List.length_cons, List.length_nil, Nat.reduceAdd, Nat.reduceSub, List.replicate_succ, List.replicate_zero, List.cons_append, List.nil_append, bd_]
 refine .seq (.rgn [] (by simp only [go_sem, seval, ac_, af_]; rfl) ?_ ?_)
 ·first | trivial | simp
 refine .seq (.rgn [] (by simp only [go_sem, seval, ac_, af_]; rfl) ?_ ?_)
 ·first | trivial | simp
 refine .ret ⟨.inr rfl, ?_⟩
 exact Out.mem' (by simp only [Tryz.results179]; rfl) (by simp only [aq_, a8_, go_sem, seval, ac_, af_]) (by simp only [a7_, rns, rn, go_sem, seval, ac_, af_] <;> (simp)) (by simp) rfl (by decide) (by simp only [go_sem, seval, ac_, af_]) (by simp only [ay_, go_sem, seval, ac_, af_]) (by simp only [as_, go_sem, seval, ac_, af_] <;> (simp [ci_, ac_]))
theorem ul_ (l : List Int) (hl : l.length < 1099511627776) : ACall En 126 [.sl false (inR l)] [] [.ow 0 1 0 l.length] [⟨3, 1, inR l⟩] := by
 refine ah_ (fn := Tryz.f126) [14] Tryz.func126 rfl rfl (by simp) fun C => ?_
 rw [ar_]
 simp only [Tryz.ntmps126, List.length_cons, List.length_nil, Nat.reduceAdd, Nat.reduceSub, List.replicate_succ, List.replicate_zero, List.cons_append, List.nil_append, bd_]
 refine .seq (.rgn [] (by simp only [go_sem, seval, ac_, af_, as_, ay_, ci_]; rfl) ?_ ?_)
 ·(first | trivial | (simp; done) | (simp [ci_, ac_, ba_]; done))
 refine .seq (.rgn [cz_ [] [14] (aaz_ l hl), cz_ [14] [] (af2_ l hl)] (by simp only [go_sem, seval, ac_, af_, as_, ay_, ci_]; rfl) ?_ ?_)
 ·(first | trivial | (simp; done) | (simp [ci_, ac_, ba_]; done))
 refine .ret ⟨.inr rfl, ?_⟩
 exact Out.mem' (by simp only [Tryz.results126]; rfl) (by simp only [aq_, a8_, go_sem, seval, ac_, af_, as_, ay_, ci_]) (by simp only [a7_, rns, rn, go_sem, seval, ac_, af_, as_, ay_, ci_] <;> (simp)) (by simp) rfl (by decide) (by simp only [go_sem, seval, ac_, af_, as_, ay_, ci_]) (by simp only [ay_, go_sem, seval, ac_, af_, as_, ay_, ci_]) (by simp only [as_, go_sem, seval, ac_, af_, as_, ay_, ci_] <;> (simp [ci_, ac_]))
theorem abp_ (l : List Int) (hl : l.length < 1099511627776) : ACall En 126 [.sl false (inR l)] [] [.sl false (inR l)] [] :=
 (ul_ l hl).frz1 (by simp [f7_, frz, af_, List.take_of_length_le])
structure Pg where
 line : Str
 good : Bool
 text : Str
 frm : List Int
deriving DecidableEq
def Pg0 : Pg := ⟨[], false, [], []⟩
def pgC (p : Pg) : List V := [.s p.line, .b p.good, .s p.text, .sl false (inR p.frm)]
def pgR (l : List Pg) : List (List V) := l.map pgC
theorem a1_ (l : List Pg) : (pgR l).length = l.length := by simp [pgR]
theorem ak_ : ∀ l : List Pg, cf_ (pgR l) = true
 | [] => rfl
 | p :: l => by
  show cf_ (pgC p :: pgR l) = true
  simp only [cf_, pgC, cv_, V.pure, ac_, ak_ l, Bool.and_true]
theorem nh_ {l : List Pg} {k : Nat} (h : k < l.length) : (pgR l).getD k [] = pgC (l.getD k Pg0) := by
 simp [pgR, List.getD_eq_getElem?_getD, List.getElem?_eq_getElem h]
theorem at_ (p : Pg) : pgC p = [.s p.line, .b p.good, .s p.text, .sl false (inR p.frm)] := rfl
def tb_ (s : Str) : Bool := tOk s && !p8_ s
theorem qk_ (s : Str) : p8_ s = decide (1 < (spl s).length) := by
 unfold p8_
 by_cases h : (10 : UInt8) ∈ s
 ·obtain ⟨a, b, rfl, ha⟩ := List.eq_append_cons_of_mem h
  rw [nj_ ha]
  have := List.length_pos_iff.2 (ah2_ b)
  simp; omega
 ·rw [kg_ h]; simpa using h
def e4_ (s : Str) : Pg := if tb_ s then (match dq_ s with | none => ⟨s, false, [], []⟩ | some x => ⟨s, true, emT x, emF x⟩) else Pg0
theorem sw_ (s : Str) (hs : s.length ≤ 281474976710656) : ACall En 124 [.s s] [] [.b (tb_ s)] [] := by
 refine ah_ (fn := Tryz.f124) [] Tryz.func124 rfl rfl (by simp) fun C => ?_
 rw [ar_]
 simp only [Tryz.ntmps124, List.length_cons, List.length_nil, Nat.reduceAdd, Nat.reduceSub, List.replicate_succ, List.replicate_zero, List.cons_append, List.nil_append, bd_]
 refine .seq (.rgn [] (by simp only [go_sem, seval]; rfl) ?_ ?_)
 ·first | trivial | simp
 refine .seq (.rgn [a2_ (ps_ s hs), a2_ (afa_ s)] (by simp only [go_sem, seval]; rfl) ?_ ?_)
 ·first | trivial | simp
 refine .ret ⟨.inr rfl, ?_⟩
 exact Out.plain (by simp only [Tryz.results124]; rfl) (by simp only [aq_, a8_, go_sem, seval] <;> (split <;> rfl)) (by simp only [a7_, go_sem, seval] <;> (rfl)) (by simp only [go_sem, seval])
end
section
set_option maxRecDepth 100000
set_option maxHeartbeats 4000000
theorem of_ (s : Str) : gi_ ((dq_ s).getD S0) = true := by
 cases h : dq_ s with
 | none => decide
 | some x =>
  by_cases hc : (cg_ s).isSome = true ∧ sok (rdS (c6_ s)) = true ∧ s1_ (rdS (c6_ s)) = s
  ·rw [n7_ hc.1 hc.2.1 hc.2.2] at h
   cases h; exact ab6_ (r2_ s).1
  ·rw [o9_ hc] at h; cases h
theorem n4_ {s : Str} (h : (dq_ s).isSome = true) : sok ((dq_ s).getD S0) = true := by
 cases hx : dq_ s with
 | none => rw [hx] at h; cases h
 | some x => exact (qg_.1 hx).1
theorem si_ {s : Str} (h : tb_ s = false) : e4_ s = Pg0 := by unfold e4_; rw [h]; rfl
theorem pg_ {s : Str} (h : tb_ s = true) (h2 : (dq_ s).isSome = false) : e4_ s = ⟨s, false, [], []⟩ := by
 unfold e4_; rw [h]
 cases hx : dq_ s with
 | none => rfl
 | some x => rw [hx] at h2; cases h2
theorem r1_ {s : Str} (h : tb_ s = true) (h2 : (dq_ s).isSome = true) : e4_ s = ⟨s, true, emT ((dq_ s).getD S0), emF ((dq_ s).getD S0)⟩ := by
 unfold e4_; rw [h]
 cases hx : dq_ s with
 | none => rw [hx] at h2; cases h2
 | some x => rfl
theorem aj4_ {s : Sl} (h : sok s = true) : (emF s).length = (bw (bof s)).length := by
 have q := gh_ (dz_ h)
 unfold emF; rw [if_pos h, ← r4_ (dz_ h), fs_]
 rw [← q.2, List.length_map]
theorem emFL {s : Sl} (h : sok s = true) : (emF s).length < 1000000 := by rw [aj4_ h]; have := (oh_ (g0_ (dz_ h))).1; omega
theorem ab7_ (s : Str) : (!tOk s || decide (((spl s).length : Int) > 1)) = !tb_ s := by
 unfold tb_; rw [qk_, Bool.not_and, Bool.not_not]; congr 1; exact decide_eq_decide.2 (by omega)
theorem y9_ (s : Str) (hs : s.length ≤ 281474976710656) : ACall En 72 [.s s] [] [.ag (pgC (e4_ s))] [] := by
 have X1 := of_ s
 have X2 := @n4_ s
 have P1 := @si_ s
 have P2 := @pg_ s
 have P3 := @r1_ s
 have R := mj_ s hs
 generalize (dq_ s).getD S0 = x at *
 generalize (dq_ s).isSome = ok at *
 refine ah_ (fn := Tryz.f72) [] Tryz.func72 rfl rfl (by simp) fun C => ?_
 rw [ar_]
 simp only [Tryz.ntmps72, List.length_cons, List.length_nil, Nat.reduceAdd, Nat.reduceSub, List.replicate_succ, List.replicate_zero, List.cons_append, List.nil_append, bd_]
 refine .seq (.rgn [] (by simp only [go_sem, seval, ag_, ac_, at_]; rfl) ?_ ?_)
 ·(first | trivial | (simp; done) | (simpa using h17) | exact ⟨by simpa using h17, rfl⟩)
 refine .seq (.seq (.rgn [a2_ (sw_ s hs)] (by simp only [go_sem, seval, ag_, ac_, at_]; rfl) ?_ ?_))
 ·(first | trivial | (simp; done) | (simpa using h17) | exact ⟨by simpa using h17, rfl⟩)
 refine .condB (by simp only [go_sem, seval, ag_, ac_, at_]; rfl) (by simp only [go_sem, seval, ag_, ac_, at_]) (fun h9 => ?_) (fun h9 => ?_)
 ·refine .seq (.rgn [] (by simp only [go_sem, seval, ag_, ac_, at_]; rfl) ?_ ?_)
  ·(first | trivial | (simp; done) | (simpa using h17) | exact ⟨by simpa using h17, rfl⟩)
  refine .ret ⟨.inr rfl, ?_⟩
  exact Out.plainL (by simp only [Tryz.results72]; rfl) (by simp only [aq_, a8_, go_sem, seval, ag_, ac_, at_] <;> (split <;> rfl)) (by simp only [a7_, go_sem, seval, ag_, ac_, at_] <;> (rw [P1 (by simpa using h9)]; simp [Pg0, les, leV, ler, inR])) (by simp only [go_sem, seval, ag_, ac_, at_])
 ·refine .skip (.seq (.rgn [a2_ R] (by simp only [go_sem, seval, ag_, ac_, at_]; rfl) ?_ ?_))
  ·(first | trivial | (simp; done) | (simpa using h17) | exact ⟨by simpa using h17, rfl⟩)
  refine .seq (.seq (.rgn [] (by simp only [go_sem, seval, ag_, ac_, at_]; rfl) ?_ ?_))
  ·(first | trivial | (simp; done) | (simpa using h17) | exact ⟨by simpa using h17, rfl⟩)
  refine .condB (by simp only [go_sem, seval, ag_, ac_, at_]; rfl) (by simp only [go_sem, seval, ag_, ac_, at_]) (fun h17 => ?_) (fun h17 => ?_)
  ·refine .seq (.rgn [] (by simp only [go_sem, seval, ag_, ac_, at_]; rfl) ?_ ?_)
   ·(first | trivial | (simp; done) | (simpa using h17) | exact ⟨by simpa using h17, rfl⟩)
   refine .ret ⟨.inr rfl, ?_⟩
   exact Out.plainL (by simp only [Tryz.results72]; rfl) (by simp only [aq_, a8_, go_sem, seval, ag_, ac_, at_] <;> (split <;> rfl)) (by simp only [a7_, go_sem, seval, ag_, ac_, at_] <;> (rw [P2 (by simpa using h9) (by simpa using h17)]; simp [les, leV, ler, inR])) (by simp only [go_sem, seval, ag_, ac_, at_])
  ·refine .skip (.seq (.rgn [c1_ (ok = true) (fun h => adf_ x (X2 h) X1)] (by simp only [go_sem, seval, ag_, ac_, at_]; rfl) ?_ ?_))
   ·(first | trivial | (simp; done) | (simpa using h17) | exact ⟨by simpa using h17, rfl⟩)
   refine .seq (.rgn [c1_ (ok = true) (fun h => abp_ (emF x) (by have := emFL (X2 h); omega))] (by simp only [go_sem, seval, ag_, ac_, at_]; rfl) ?_ ?_)
   ·(first | trivial | (simp; done) | (simpa using h17) | exact ⟨by simpa using h17, rfl⟩)
   refine .ret ⟨.inr rfl, ?_⟩
   exact Out.plainL (by simp only [Tryz.results72]; rfl) (by simp only [aq_, a8_, go_sem, seval, ag_, ac_, at_] <;> (split <;> rfl)) (by simp only [a7_, go_sem, seval, ag_, ac_, at_] <;> (rw [P3 (by simpa using h9) (by simpa using h17)]; simp [les, leV, ler, ba_])) (by simp only [go_sem, seval, ag_, ac_, at_])
theorem yr_ (s : Str) (hs : s.length ≤ 281474976710656) : ACall En 71 [.s s] [] [.ag (pgC (e4_ s))] [] := by
 have X1 := of_ s
 have X2 := @n4_ s
 have P1 := @si_ s
 have P2 := @pg_ s
 have P3 := @r1_ s
 have R := va_ s hs
 have hn := qk_ s
 have hI : tb_ s = (tOk s && !p8_ s) := rfl
 generalize (dq_ s).getD S0 = x at *
 generalize (dq_ s).isSome = ok at *
 refine ah_ (fn := Tryz.f71) [] Tryz.func71 rfl rfl (by simp) fun C => ?_
 rw [ar_]
 simp only [Tryz.ntmps71, List.length_cons, List.length_nil, Nat.reduceAdd, Nat.reduceSub, List.replicate_succ, List.replicate_zero, List.cons_append, List.nil_append, bd_]
 refine .seq (.rgn [] (by simp only [go_sem, seval, ag_, ac_, at_, ab_, aa_]; rfl) ?_ ?_)
 ·first | trivial | simp
 refine .seq (.seq (.rgn [a2_ (qy_ s hs), c1_ (tOk s = true) (fun h => sr_ s (nd_ h))] (by simp only [go_sem, seval, ag_, ac_, at_, ab_, aa_]; rfl) ?_ ?_))
 ·first | trivial | simp
 refine .condB (by simp only [go_sem, seval, ag_, ac_, at_, ab_, aa_]; rfl) (by simp only [go_sem, seval, ag_, ac_, at_, ab_, aa_]) (fun h15 => ?_) (fun h15 => ?_)
 ·refine .seq (.rgn [] (by simp only [go_sem, seval, ag_, ac_, at_, ab_, aa_]; rfl) ?_ ?_)
  ·first | trivial | simp
  refine .ret ⟨.inr rfl, ?_⟩
  exact Out.plainL (by simp only [Tryz.results71]; rfl) (by simp only [aq_, a8_, go_sem, seval, ag_, ac_, at_, ab_, aa_] <;> (split <;> rfl)) (by simp only [a7_, go_sem, seval, ag_, ac_, at_, ab_, aa_] <;> (rw [ab7_] at h15; rw [P1 (by simpa using h15)]; simp [Pg0, les, leV, ler, inR])) (by simp only [go_sem, seval, ag_, ac_, at_, ab_, aa_])
 ·refine .skip (.seq (.rgn [a2_ R] (by simp only [go_sem, seval, ag_, ac_, at_, ab_, aa_]; rfl) ?_ ?_))
  ·first | trivial | simp
  refine .seq (.seq (.rgn [] (by simp only [go_sem, seval, ag_, ac_, at_, ab_, aa_]; rfl) ?_ ?_))
  ·first | trivial | simp
  refine .condB (by simp only [go_sem, seval, ag_, ac_, at_, ab_, aa_]; rfl) (by simp only [go_sem, seval, ag_, ac_, at_, ab_, aa_]) (fun h23 => ?_) (fun h23 => ?_)
  ·refine .seq (.rgn [] (by simp only [go_sem, seval, ag_, ac_, at_, ab_, aa_]; rfl) ?_ ?_)
   ·first | trivial | simp
   refine .ret ⟨.inr rfl, ?_⟩
   exact Out.plainL (by simp only [Tryz.results71]; rfl) (by simp only [aq_, a8_, go_sem, seval, ag_, ac_, at_, ab_, aa_] <;> (split <;> rfl)) (by simp only [a7_, go_sem, seval, ag_, ac_, at_, ab_, aa_] <;> (rw [ab7_] at h15; rw [P2 (by simpa using h15) (by simpa using h23)]; simp [les, leV, ler, inR])) (by simp only [go_sem, seval, ag_, ac_, at_, ab_, aa_])
  ·refine .skip (.seq (.rgn [a2_ (uy_ x X1)] (by simp only [go_sem, seval, ag_, ac_, at_, ab_, aa_]; rfl) ?_ ?_))
   ·first | trivial | simp
   refine .seq (.rgn [] (by simp only [go_sem, seval, ag_, ac_, at_, ab_, aa_]; rfl) ?_ ?_)
   ·first | trivial | simp
   refine .ret ⟨.inr rfl, ?_⟩
   exact Out.plainL (by simp only [Tryz.results71]; rfl) (by simp only [aq_, a8_, go_sem, seval, ag_, ac_, at_, ab_, aa_] <;> (split <;> rfl)) (by simp only [a7_, go_sem, seval, ag_, ac_, at_, ab_, aa_] <;> (rw [ab7_] at h15; rw [P3 (by simpa using h15) (by simpa using h23)]; simp [les, leV, ler, ba_])) (by simp only [go_sem, seval, ag_, ac_, at_, ab_, aa_])
end
end Go.Proofs.YtefmbmafdgedmaaGreatDoor
