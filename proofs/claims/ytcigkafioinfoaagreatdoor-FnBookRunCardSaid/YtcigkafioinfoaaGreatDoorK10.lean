/- What the library's functions answer: strings.Contains for a newline. Conditions: none. -/
import Derived.Test.YtcigkafioinfoaaGreatDoorKw
import Derived.Lib.IndexAny
import Derived.Test.YtcigkafioinfoaaGreatDoorK7
import Derived.Test.YtcigkafioinfoaaGreatDoorKq
import Derived.Test.YtcigkafioinfoaaGreatDoorKh
import Derived.Test.YtcigkafioinfoaaGreatDoorK8
import Derived.Test.YtcigkafioinfoaaGreatDoorK6
import Derived.Test.YtcigkafioinfoaaGreatDoorKo
set_option linter.unusedVariables false
set_option linter.unusedSimpArgs false
namespace Go.Proofs.YtcigkafioinfoaaGreatDoor
section
open Go.RowKit
set_option maxRecDepth 100000
def ro_ (s : Str) : Bool := s.contains 10
theorem aid_ (s : Str) : ACall En 209 [.s s, .s [10]] [] [.b (ro_ s)] [] := by
 refine f4_ (fn := Tryz.f209) Tryz.func209 rfl rfl fun S w xs hx _ _ => ?_
 simp only [VRs, VR] at hx
 obtain ⟨x, r, e1, rfl, y, q, e2, rfl, rfl⟩ := hx
 subst e2
 obtain rfl : xs = #[.string ⟨s.toArray⟩, .string ⟨[10].toArray⟩] := by apply Array.ext'; simpa using e1
 refine (Tryz.strings_Contains_one ⟨s.toArray⟩ 10 w).mono ?_
 rintro e w' ⟨rfl, rfl⟩
 refine ⟨[_], rfl, Below.refl _ _, .cons ?_ .nil⟩
 simp only [VR, ro_]
 rw [Lib.contains_iff_indexByte]
end
section
set_option maxRecDepth 100000
set_option maxHeartbeats 4000000
theorem abs_ : ACall En 244 [.sl false []] [] [.ow 0 1 0 0] [⟨3, 1, []⟩] := by
 refine aj_ (fn := Tryz.f244) [17] Tryz.func244 rfl rfl (by simp) fun C => ?_
 rw [ay_]
 simp only [Tryz.ntmps244, T7_, List.length_nil, Nat.reduceAdd, Nat.reduceSub, List.replicate_succ, List.replicate_zero, List.cons_append, List.nil_append, bu_]
 refine .seq (.rgn [] (by simp only [go_sem, seval]; rfl) ?_ ?_)
 ·first | trivial | simp
 refine .seq (.seq (.rgnS [4] [nilO En] (by simp only [go_sem, seval]; rfl) ?_ ?_))
 ·first | trivial | simp
 refine .condQ (by simp only [go_sem, seval] <;> rfl) (by simp only [go_sem, seval]) ?_ ?_
 ·refine .seq (.rgn [] (by simp only [go_sem, seval]; rfl) ?_ ?_)
  ·first | trivial | simp
  refine .can (Can.ownSlot 2 17 3 1 (by simp only [go_sem, seval] <;> rfl) (by simp only [go_sem, seval]) (by simp only [go_sem, seval] <;> rfl)) ?_
  refine .ret ⟨.inr rfl, ?_⟩
  exact Out.mem' (by simp only [Tryz.results244]; rfl) (by simp only [az_, bc_, go_sem, seval]) (by simp only [bb_, rns, rn, go_sem, seval] <;> (simp)) (by simp) rfl (by decide) (by simp only [go_sem, seval]) (by simp only [ao_, go_sem, seval]) (by simp only [ai_, go_sem, seval] <;> (simp))
 ·refine .skip (.seq (.rgn [] (by simp only [go_sem, seval]; rfl) ?_ ?_))
  ·first | trivial | simp
  refine .ret ⟨.inr rfl, ?_⟩
  exact Out.mem' (by simp only [Tryz.results244]; rfl) (by simp only [az_, bc_, go_sem, seval]) (by simp only [bb_, rns, rn, go_sem, seval] <;> (simp)) (by simp) rfl (by decide) (by simp only [go_sem, seval]) (by simp only [ao_, go_sem, seval]) (by simp only [ai_, go_sem, seval] <;> (simp))
theorem aa7_ (e : Int) (r : List Int) (hl : r.length < 1099511627776) : ACall En 244 [.sl false (inR (e :: r))] [] [.ow 0 1 0 (r.length + 1)] [⟨3, 1, inR (e :: r)⟩] := by
 refine aj_ (fn := Tryz.f244) [17] Tryz.func244 rfl rfl (by simp) fun C => ?_
 rw [ay_]
 simp only [Tryz.ntmps244, T7_, List.length_nil, Nat.reduceAdd, Nat.reduceSub, List.replicate_succ, List.replicate_zero, List.cons_append, List.nil_append, bu_]
 refine .seq (.rgn [] (by simp only [go_sem, seval, ac_, ae_, as_, b9_, cd_, V.pure]; rfl) ?_ ?_)
 ·first | trivial | simp
 refine .seq (.seq (.rgnS [4] [nilO En] (by simp only [go_sem, seval, ac_, ae_, as_, b9_, cd_, V.pure]; rfl) ?_ ?_))
 ·first | trivial | simp
 refine .condB (by simp only [go_sem, seval, ac_, ae_, as_, b9_, cd_, V.pure]; rfl) (by simp only [go_sem, seval, ac_, ae_, as_, b9_, cd_, V.pure]) (fun h4 => ?_) (fun h4 => ?_)
 ·exact absurd h4 (by simp)
 ·refine .skip (.seq (.rgn [] (by simp only [go_sem, seval, ac_, ae_, as_, b9_, cd_, V.pure]; rfl) ?_ ?_))
  ·have := ae_ r; simp [as_, uq_]; omega
  refine .ret ⟨.inr rfl, ?_⟩
  exact Out.mem' (by simp only [Tryz.results244]; rfl) (by simp only [az_, bc_, go_sem, seval, ac_, ae_, as_, b9_, cd_, V.pure]) (by simp only [bb_, rns, rn, go_sem, seval, ac_, ae_, as_, b9_, cd_, V.pure] <;> (simp [ae_])) (by simp) rfl (by decide) (by simp only [go_sem, seval, ac_, ae_, as_, b9_, cd_, V.pure]) (by simp only [ao_, go_sem, seval, ac_, ae_, as_, b9_, cd_, V.pure]) (by simp only [ai_, go_sem, seval, ac_, ae_, as_, b9_, cd_, V.pure] <;> (simp [as_, b7_, ac_]))
theorem aeo_ (l : List Int) (hl : l.length < 1099511627776) : ACall En 244 [.sl false (inR l)] [] [.ow 0 1 0 l.length] [⟨3, 1, inR l⟩] := by
 cases l with
 | nil => simp only [inR]; exact abs_
 | cons e r => exact aa7_ e r (by simp at hl; omega)
theorem ah0_ (l : List Int) (hl : l.length < 1099511627776) : ACall En 79 [.ow 0 1 0 l.length] [⟨3, 1, inR l⟩] [.ow 0 1 0 l.length] [⟨3, 1, inR l⟩] := by
 refine aj_ (fn := Tryz.f79) [0] Tryz.func79 rfl rfl (by simp) fun C => ?_
 rw [ay_]
 simp only [Tryz.ntmps79, T7_, List.length_nil, Nat.reduceAdd, Nat.reduceSub, List.replicate_succ, List.replicate_zero, List.cons_append, List.nil_append, bu_]
 refine .seq (.rgn [] (by simp only [go_sem, seval, ac_, ae_]; rfl) ?_ ?_)
 ·first | trivial | simp
 refine .seq (.rgn [] (by simp only [go_sem, seval, ac_, ae_]; rfl) ?_ ?_)
 ·first | trivial | simp
 refine .ret ⟨.inr rfl, ?_⟩
 exact Out.mem' (by simp only [Tryz.results79]; rfl) (by simp only [az_, bc_, go_sem, seval, ac_, ae_]) (by simp only [bb_, rns, rn, go_sem, seval, ac_, ae_] <;> (simp)) (by simp) rfl (by decide) (by simp only [go_sem, seval, ac_, ae_]) (by simp only [ao_, go_sem, seval, ac_, ae_]) (by simp only [ai_, go_sem, seval, ac_, ae_] <;> (simp [b7_, ac_]))
theorem ag8_ (l : List Int) (hl : l.length < 1099511627776) : ACall En 211 [.sl false (inR l)] [] [.ow 0 1 0 l.length] [⟨3, 1, inR l⟩] := by
 refine aj_ (fn := Tryz.f211) [14] Tryz.func211 rfl rfl (by simp) fun C => ?_
 rw [ay_]
 simp only [Tryz.ntmps211, T7_, List.length_nil, Nat.reduceAdd, Nat.reduceSub, List.replicate_succ, List.replicate_zero, List.cons_append, List.nil_append, bu_]
 refine .seq (.rgn [] (by simp only [go_sem, seval, ac_, ae_, ai_, ao_, b7_]; rfl) ?_ ?_)
 ·(first | trivial | (simp; done) | (simp [b7_, ac_, be_]; done))
 refine .seq (.rgn [bx_ [] [14] (aeo_ l hl), bx_ [14] [] (ah0_ l hl)] (by simp only [go_sem, seval, ac_, ae_, ai_, ao_, b7_]; rfl) ?_ ?_)
 ·(first | trivial | (simp; done) | (simp [b7_, ac_, be_]; done))
 refine .ret ⟨.inr rfl, ?_⟩
 exact Out.mem' (by simp only [Tryz.results211]; rfl) (by simp only [az_, bc_, go_sem, seval, ac_, ae_, ai_, ao_, b7_]) (by simp only [bb_, rns, rn, go_sem, seval, ac_, ae_, ai_, ao_, b7_] <;> (simp)) (by simp) rfl (by decide) (by simp only [go_sem, seval, ac_, ae_, ai_, ao_, b7_]) (by simp only [ao_, go_sem, seval, ac_, ae_, ai_, ao_, b7_]) (by simp only [ai_, go_sem, seval, ac_, ae_, ai_, ao_, b7_] <;> (simp [b7_, ac_]))
theorem afa_ (l : List Int) (hl : l.length < 1099511627776) : ACall En 211 [.sl false (inR l)] [] [.sl false (inR l)] [] :=
 (ag8_ l hl).frz1 (by simp [fu_, frz, ae_, T1_])
structure Pg where
 line : Str
 good : Bool
 text : Str
 frm : List Int
deriving DecidableEq
def Pg0 : Pg := ⟨[], false, [], []⟩
def pgC (p : Pg) : List V := [.s p.line, .b p.good, .s p.text, .sl false (inR p.frm)]
def pgR (l : List Pg) : List (List V) := l.map pgC
theorem al_ (l : List Pg) : (pgR l).length = l.length := by simp [pgR]
theorem ah_ : ∀ l : List Pg, b9_ (pgR l) = true
 | [] => rfl
 | p :: l => by
  show b9_ (pgC p :: pgR l) = true
  simp only [b9_, pgC, cd_, V.pure, ac_, ah_ l, Bool.and_true]
theorem afw_ (p : Pg) : cd_ (pgC p) = true := by simp only [pgC, cd_, V.pure, ac_, Bool.and_true]
theorem hm_ {l : List Pg} {k : Nat} (h : k < l.length) : (pgR l).getD k [] = pgC (l.getD k Pg0) := by
 simp [pgR, T8_, T6_ h]
theorem am_ (p : Pg) : pgC p = [.s p.line, .b p.good, .s p.text, .sl false (inR p.frm)] := rfl
def qw_ (s : Str) : Bool := tOk s && !ro_ s
theorem sg_ (s : Str) : ro_ s = decide (1 < (spl s).length) := by
 unfold ro_
 by_cases h : (10 : UInt8) ∈ s
 ·obtain ⟨a, b, rfl, ha⟩ := List.eq_append_cons_of_mem h
  rw [lp_ ha]
  have := List.length_pos_iff.2 (aly_ b)
  simp; omega
 ·rw [i5_ h]; simpa using h
def gn_ (s : Str) : Pg := if qw_ s then (match cw_ s with | none => ⟨s, false, [], []⟩ | some x => ⟨s, true, emT x, emF x⟩) else Pg0
theorem u7_ (s : Str) (hs : s.length ≤ 281474976710656) : ACall En 166 [.s s] [] [.b (qw_ s)] [] := by
 refine aj_ (fn := Tryz.f166) [] Tryz.func166 rfl rfl (by simp) fun C => ?_
 rw [ay_]
 simp only [Tryz.ntmps166, T7_, List.length_nil, Nat.reduceAdd, Nat.reduceSub, List.replicate_succ, List.replicate_zero, List.cons_append, List.nil_append, bu_]
 refine .seq (.rgn [] (by simp only [go_sem, seval]; rfl) ?_ ?_)
 ·first | trivial | simp
 refine .seq (.rgn [a8_ (su_ s hs), a8_ (aid_ s)] (by simp only [go_sem, seval]; rfl) ?_ ?_)
 ·first | trivial | simp
 refine .ret ⟨.inr rfl, ?_⟩
 exact Out.plain (by simp only [Tryz.results166]; rfl) (by simp only [az_, bc_, go_sem, seval] <;> (split <;> rfl)) (by simp only [bb_, go_sem, seval] <;> (rfl)) (by simp only [go_sem, seval])
end
section
set_option maxRecDepth 100000
set_option maxHeartbeats 4000000
theorem qa_ (s : Str) : ea_ ((cw_ s).getD S0) = true := by
 cases h : cw_ s with
 | none => decide
 | some x =>
  by_cases hc : (b4_ s).isSome = true ∧ sok (rdS (ck_ s)) = true ∧ ec_ (rdS (ck_ s)) = s
  ·rw [pp_ hc.1 hc.2.1 hc.2.2] at h
   cases h; exact agh_ (lt_ s).1
  ·rw [o2_ hc] at h; cases h
theorem ur_ {s : Str} (h : (cw_ s).isSome = true) : sok ((cw_ s).getD S0) = true := by
 cases hx : cw_ s with
 | none => rw [hx] at h; cases h
 | some x => exact (m9_.1 hx).1
theorem aar_ {s : Str} (h : qw_ s = false) : gn_ s = Pg0 := by unfold gn_; rw [h]; rfl
theorem pb_ {s : Str} (h : qw_ s = true) (h2 : (cw_ s).isSome = false) : gn_ s = ⟨s, false, [], []⟩ := by
 unfold gn_; rw [h]
 cases hx : cw_ s with
 | none => rfl
 | some x => rw [hx] at h2; cases h2
theorem t8_ {s : Str} (h : qw_ s = true) (h2 : (cw_ s).isSome = true) : gn_ s = ⟨s, true, emT ((cw_ s).getD S0), emF ((cw_ s).getD S0)⟩ := by
 unfold gn_; rw [h]
 cases hx : cw_ s with
 | none => rw [hx] at h2; cases h2
 | some x => rfl
theorem an9_ {s : Sl} (h : sok s = true) : (emF s).length = (bw (bof s)).length := by
 have q := gu_ (dk_ h)
 unfold emF; rw [if_pos h, ← tz_ (dk_ h), fw_]
 rw [← q.2, List.length_map]
theorem emFL {s : Sl} (h : sok s = true) : (emF s).length < 1000000 := by rw [an9_ h]; have := (qc_ (hf_ (dk_ h))).1; omega
theorem u2_ (s : Str) : (!tOk s || decide (((spl s).length : Int) > 1)) = !qw_ s := by
 unfold qw_; rw [sg_, Bool.not_and, Bool.not_not]; congr 1; exact decide_eq_decide.2 (by omega)
theorem ab6_ (s : Str) (hs : s.length ≤ 281474976710656) : ACall En 168 [.s s] [] [.ag (pgC (gn_ s))] [] := by
 have X1 := qa_ s
 have X2 := @ur_ s
 have P1 := @aar_ s
 have P2 := @pb_ s
 have P3 := @t8_ s
 have R := nk_ s hs
 generalize (cw_ s).getD S0 = x at *
 generalize (cw_ s).isSome = ok at *
 refine aj_ (fn := Tryz.f168) [] Tryz.func168 rfl rfl (by simp) fun C => ?_
 rw [ay_]
 simp only [Tryz.ntmps168, T7_, List.length_nil, Nat.reduceAdd, Nat.reduceSub, List.replicate_succ, List.replicate_zero, List.cons_append, List.nil_append, bu_]
 refine .seq (.rgn [] (by simp only [go_sem, seval, ag_, ac_, am_]; rfl) ?_ ?_)
 ·(first | trivial | (simp; done) | (simpa using h17) | exact ⟨by simpa using h17, rfl⟩)
 refine .seq (.seq (.rgn [a8_ (u7_ s hs)] (by simp only [go_sem, seval, ag_, ac_, am_]; rfl) ?_ ?_))
 ·(first | trivial | (simp; done) | (simpa using h17) | exact ⟨by simpa using h17, rfl⟩)
 refine .condB (by simp only [go_sem, seval, ag_, ac_, am_]; rfl) (by simp only [go_sem, seval, ag_, ac_, am_]) (fun h9 => ?_) (fun h9 => ?_)
 ·refine .seq (.rgn [] (by simp only [go_sem, seval, ag_, ac_, am_]; rfl) ?_ ?_)
  ·(first | trivial | (simp; done) | (simpa using h17) | exact ⟨by simpa using h17, rfl⟩)
  refine .ret ⟨.inr rfl, ?_⟩
  exact Out.plainL (by simp only [Tryz.results168]; rfl) (by simp only [az_, bc_, go_sem, seval, ag_, ac_, am_] <;> (split <;> rfl)) (by simp only [bb_, go_sem, seval, ag_, ac_, am_] <;> (rw [P1 (by simpa using h9)]; simp [Pg0, les, leV, ler, inR])) (by simp only [go_sem, seval, ag_, ac_, am_])
 ·refine .skip (.seq (.rgn [a8_ R] (by simp only [go_sem, seval, ag_, ac_, am_]; rfl) ?_ ?_))
  ·(first | trivial | (simp; done) | (simpa using h17) | exact ⟨by simpa using h17, rfl⟩)
  refine .seq (.seq (.rgn [] (by simp only [go_sem, seval, ag_, ac_, am_]; rfl) ?_ ?_))
  ·(first | trivial | (simp; done) | (simpa using h17) | exact ⟨by simpa using h17, rfl⟩)
  refine .condB (by simp only [go_sem, seval, ag_, ac_, am_]; rfl) (by simp only [go_sem, seval, ag_, ac_, am_]) (fun h17 => ?_) (fun h17 => ?_)
  ·refine .seq (.rgn [] (by simp only [go_sem, seval, ag_, ac_, am_]; rfl) ?_ ?_)
   ·(first | trivial | (simp; done) | (simpa using h17) | exact ⟨by simpa using h17, rfl⟩)
   refine .ret ⟨.inr rfl, ?_⟩
   exact Out.plainL (by simp only [Tryz.results168]; rfl) (by simp only [az_, bc_, go_sem, seval, ag_, ac_, am_] <;> (split <;> rfl)) (by simp only [bb_, go_sem, seval, ag_, ac_, am_] <;> (rw [P2 (by simpa using h9) (by simpa using h17)]; simp [les, leV, ler, inR])) (by simp only [go_sem, seval, ag_, ac_, am_])
  ·refine .skip (.seq (.rgn [ce_ (ok = true) (fun h => ama_ x (X2 h) X1)] (by simp only [go_sem, seval, ag_, ac_, am_]; rfl) ?_ ?_))
   ·(first | trivial | (simp; done) | (simpa using h17) | exact ⟨by simpa using h17, rfl⟩)
   refine .seq (.rgn [ce_ (ok = true) (fun h => afa_ (emF x) (by have := emFL (X2 h); omega))] (by simp only [go_sem, seval, ag_, ac_, am_]; rfl) ?_ ?_)
   ·(first | trivial | (simp; done) | (simpa using h17) | exact ⟨by simpa using h17, rfl⟩)
   refine .ret ⟨.inr rfl, ?_⟩
   exact Out.plainL (by simp only [Tryz.results168]; rfl) (by simp only [az_, bc_, go_sem, seval, ag_, ac_, am_] <;> (split <;> rfl)) (by simp only [bb_, go_sem, seval, ag_, ac_, am_] <;> (rw [P3 (by simpa using h9) (by simpa using h17)]; simp [les, leV, ler, be_])) (by simp only [go_sem, seval, ag_, ac_, am_])
theorem se_ (s : Str) (hs : s.length ≤ 281474976710656) : ACall En 71 [.s s] [] [.ag (pgC (gn_ s))] [] := by
 have X1 := qa_ s
 have X2 := @ur_ s
 have P1 := @aar_ s
 have P2 := @pb_ s
 have P3 := @t8_ s
 have R := w9_ s hs
 have hn := sg_ s
 have hI : qw_ s = (tOk s && !ro_ s) := rfl
 generalize (cw_ s).getD S0 = x at *
 generalize (cw_ s).isSome = ok at *
 refine aj_ (fn := Tryz.f71) [] Tryz.func71 rfl rfl (by simp) fun C => ?_
 rw [ay_]
 simp only [Tryz.ntmps71, T7_, List.length_nil, Nat.reduceAdd, Nat.reduceSub, List.replicate_succ, List.replicate_zero, List.cons_append, List.nil_append, bu_]
 refine .seq (.rgn [] (by simp only [go_sem, seval, ag_, ac_, am_, ab_, aa_]; rfl) ?_ ?_)
 ·first | trivial | simp
 refine .seq (.seq (.rgn [a8_ (me_ s hs), ce_ (tOk s = true) (fun h => oy_ s (l6_ h))] (by simp only [go_sem, seval, ag_, ac_, am_, ab_, aa_]; rfl) ?_ ?_))
 ·first | trivial | simp
 refine .condB (by simp only [go_sem, seval, ag_, ac_, am_, ab_, aa_]; rfl) (by simp only [go_sem, seval, ag_, ac_, am_, ab_, aa_]) (fun h15 => ?_) (fun h15 => ?_)
 ·refine .seq (.rgn [] (by simp only [go_sem, seval, ag_, ac_, am_, ab_, aa_]; rfl) ?_ ?_)
  ·first | trivial | simp
  refine .ret ⟨.inr rfl, ?_⟩
  exact Out.plainL (by simp only [Tryz.results71]; rfl) (by simp only [az_, bc_, go_sem, seval, ag_, ac_, am_, ab_, aa_] <;> (split <;> rfl)) (by simp only [bb_, go_sem, seval, ag_, ac_, am_, ab_, aa_] <;> (rw [u2_] at h15; rw [P1 (by simpa using h15)]; simp [Pg0, les, leV, ler, inR])) (by simp only [go_sem, seval, ag_, ac_, am_, ab_, aa_])
 ·refine .skip (.seq (.rgn [a8_ R] (by simp only [go_sem, seval, ag_, ac_, am_, ab_, aa_]; rfl) ?_ ?_))
  ·first | trivial | simp
  refine .seq (.seq (.rgn [] (by simp only [go_sem, seval, ag_, ac_, am_, ab_, aa_]; rfl) ?_ ?_))
  ·first | trivial | simp
  refine .condB (by simp only [go_sem, seval, ag_, ac_, am_, ab_, aa_]; rfl) (by simp only [go_sem, seval, ag_, ac_, am_, ab_, aa_]) (fun h23 => ?_) (fun h23 => ?_)
  ·refine .seq (.rgn [] (by simp only [go_sem, seval, ag_, ac_, am_, ab_, aa_]; rfl) ?_ ?_)
   ·first | trivial | simp
   refine .ret ⟨.inr rfl, ?_⟩
   exact Out.plainL (by simp only [Tryz.results71]; rfl) (by simp only [az_, bc_, go_sem, seval, ag_, ac_, am_, ab_, aa_] <;> (split <;> rfl)) (by simp only [bb_, go_sem, seval, ag_, ac_, am_, ab_, aa_] <;> (rw [u2_] at h15; rw [P2 (by simpa using h15) (by simpa using h23)]; simp [les, leV, ler, inR])) (by simp only [go_sem, seval, ag_, ac_, am_, ab_, aa_])
  ·refine .skip (.seq (.rgn [a8_ (uv_ x X1)] (by simp only [go_sem, seval, ag_, ac_, am_, ab_, aa_]; rfl) ?_ ?_))
   ·first | trivial | simp
   refine .seq (.rgn [] (by simp only [go_sem, seval, ag_, ac_, am_, ab_, aa_]; rfl) ?_ ?_)
   ·first | trivial | simp
   refine .ret ⟨.inr rfl, ?_⟩
   exact Out.plainL (by simp only [Tryz.results71]; rfl) (by simp only [az_, bc_, go_sem, seval, ag_, ac_, am_, ab_, aa_] <;> (split <;> rfl)) (by simp only [bb_, go_sem, seval, ag_, ac_, am_, ab_, aa_] <;> (rw [u2_] at h15; rw [P3 (by simpa using h15) (by simpa using h23)]; simp [les, leV, ler, be_])) (by simp only [go_sem, seval, ag_, ac_, am_, ab_, aa_])
theorem n4_ {a b : Pg} (h : (((!(a.line == b.line) || !(a.good == b.good)) || !(a.text == b.text)) || ((a.frm.length : Int) != (b.frm.length : Int))) = false) : a.line = b.line ∧ a.good = b.good ∧ a.text = b.text ∧ a.frm.length = b.frm.length := by
 simp only [Bool.or_eq_false_iff, Bool.not_eq_false', beq_iff_eq, bne_eq_false_iff_eq] at h
 exact ⟨h.1.1.1, h.1.1.2, h.1.2, by omega⟩
end
end Go.Proofs.YtcigkafioinfoaaGreatDoor
