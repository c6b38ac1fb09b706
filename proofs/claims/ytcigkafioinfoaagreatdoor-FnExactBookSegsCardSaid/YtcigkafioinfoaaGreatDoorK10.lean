/- What the library's functions answer: strings.Contains for a newline. Conditions: none. -/
import Derived.Test.YtcigkafioinfoaaGreatDoorKw
import Derived.Lib.IndexAny
import Derived.Test.YtcigkafioinfoaaGreatDoorK7
import Derived.Test.YtcigkafioinfoaaGreatDoorKq
import Derived.Test.YtcigkafioinfoaaGreatDoorKh
import Derived.Test.YtcigkafioinfoaaGreatDoorK8
import Derived.Test.YtcigkafioinfoaaGreatDoorK6
import Derived.Test.YtcigkafioinfoaaGreatDoorKo
set_option linter.unusedVariables false
set_option linter.unusedSimpArgs false
namespace Go.Proofs.YtcigkafioinfoaaGreatDoor
section
open Go.RowKit
set_option maxRecDepth 100000
def rk_ (s : Str) : Bool := s.contains 10
theorem ahc_ (s : Str) : ACall En 209 [.s s, .s [10]] [] [.b (rk_ s)] [] := by
 refine h9_ (fn := Tryz.f209) Tryz.func209 rfl rfl fun S w xs hx _ _ => ?_
 simp only [VRs, VR] at hx
 obtain ⟨x, r, e1, rfl, y, q, e2, rfl, rfl⟩ := hx
 subst e2
 obtain rfl : xs = #[.string ⟨s.toArray⟩, .string ⟨[10].toArray⟩] := by apply Array.ext'; simpa using e1
 refine (Tryz.strings_Contains_one ⟨s.toArray⟩ 10 w).mono ?_
 rintro e w' ⟨rfl, rfl⟩
 refine ⟨[_], rfl, Below.refl _ _, .cons ?_ .nil⟩
 simp only [VR, rk_]
 rw [Lib.contains_iff_indexByte]
end
section
set_option maxRecDepth 100000
set_option maxHeartbeats 4000000
theorem aal_ : ACall En 244 [.sl false []] [] [.ow 0 1 0 0] [⟨3, 1, []⟩] := by
 refine al_ (fn := Tryz.f244) [17] Tryz.func244 rfl rfl (by simp) fun C => ?_
 rw [ay_]
 simp only [Tryz.ntmps244, T7_, List.length_nil, Nat.reduceAdd, Nat.reduceSub, List.replicate_succ, List.replicate_zero, List.cons_append, List.nil_append, bs_]
 refine .seq (.rgn [] (by simp only [go_sem, seval]; rfl) ?_ ?_)
 ·first | trivial | simp
 refine .seq (.seq (.rgnS [4] [nilO En] (by simp only [go_sem, seval]; rfl) ?_ ?_))
 ·first | trivial | simp
 refine .condQ (by simp only [go_sem, seval] <;> rfl) (by simp only [go_sem, seval]) ?_ ?_
 ·refine .seq (.rgn [] (by simp only [go_sem, seval]; rfl) ?_ ?_)
  ·first | trivial | simp
  refine .can (Can.ownSlot 2 17 3 1 (by simp only [go_sem, seval] <;> rfl) (by simp only [go_sem, seval]) (by simp only [go_sem, seval] <;> rfl)) ?_
  refine .ret ⟨.inr rfl, ?_⟩
  exact Out.mem' (by simp only [Tryz.results244]; rfl) (by simp only [az_, bj_, go_sem, seval]) (by simp only [bg_, rns, rn, go_sem, seval] <;> (simp)) (by simp) rfl (by decide) (by simp only [go_sem, seval]) (by simp only [av_, go_sem, seval]) (by simp only [ao_, go_sem, seval] <;> (simp))
 ·refine .skip (.seq (.rgn [] (by simp only [go_sem, seval]; rfl) ?_ ?_))
  ·first | trivial | simp
  refine .ret ⟨.inr rfl, ?_⟩
  exact Out.mem' (by simp only [Tryz.results244]; rfl) (by simp only [az_, bj_, go_sem, seval]) (by simp only [bg_, rns, rn, go_sem, seval] <;> (simp)) (by simp) rfl (by decide) (by simp only [go_sem, seval]) (by simp only [av_, go_sem, seval]) (by simp only [ao_, go_sem, seval] <;> (simp))
theorem aar_ (e : Int) (r : List Int) (hl : r.length < 1099511627776) : ACall En 244 [.sl false (inR (e :: r))] [] [.ow 0 1 0 (r.length + 1)] [⟨3, 1, inR (e :: r)⟩] := by
 refine al_ (fn := Tryz.f244) [17] Tryz.func244 rfl rfl (by simp) fun C => ?_
 rw [ay_]
 simp only [Tryz.ntmps244, T7_, List.length_nil, Nat.reduceAdd, Nat.reduceSub, List.replicate_succ, List.replicate_zero, List.cons_append, List.nil_append, bs_]
 refine .seq (.rgn [] (by simp only [go_sem, seval, aa_, ad_, eo_, cj_, cq_, V.pure]; rfl) ?_ ?_)
 ·first | trivial | simp
 refine .seq (.seq (.rgnS [4] [nilO En] (by simp only [go_sem, seval, aa_, ad_, eo_, cj_, cq_, V.pure]; rfl) ?_ ?_))
 ·first | trivial | simp
 refine .condB (by simp only [go_sem, seval, aa_, ad_, eo_, cj_, cq_, V.pure]; rfl) (by simp only [go_sem, seval, aa_, ad_, eo_, cj_, cq_, V.pure]) (fun h4 => ?_) (fun h4 => ?_)
 ·exact absurd h4 (by simp)
 ·refine .skip (.seq (.rgn [] (by simp only [go_sem, seval, aa_, ad_, eo_, cj_, cq_, V.pure]; rfl) ?_ ?_))
  ·have := ad_ r; simp [eo_, wn_]; omega
  refine .ret ⟨.inr rfl, ?_⟩
  exact Out.mem' (by simp only [Tryz.results244]; rfl) (by simp only [az_, bj_, go_sem, seval, aa_, ad_, eo_, cj_, cq_, V.pure]) (by simp only [bg_, rns, rn, go_sem, seval, aa_, ad_, eo_, cj_, cq_, V.pure] <;> (simp [ad_])) (by simp) rfl (by decide) (by simp only [go_sem, seval, aa_, ad_, eo_, cj_, cq_, V.pure]) (by simp only [av_, go_sem, seval, aa_, ad_, eo_, cj_, cq_, V.pure]) (by simp only [ao_, go_sem, seval, aa_, ad_, eo_, cj_, cq_, V.pure] <;> (simp [eo_, ck_, aa_]))
theorem afc_ (l : List Int) (hl : l.length < 1099511627776) : ACall En 244 [.sl false (inR l)] [] [.ow 0 1 0 l.length] [⟨3, 1, inR l⟩] := by
 cases l with
 | nil => simp only [inR]; exact aal_
 | cons e r => exact aar_ e r (by simp at hl; omega)
theorem tn_ (l : List Int) (hl : l.length < 1099511627776) : ACall En 79 [.ow 0 1 0 l.length] [⟨3, 1, inR l⟩] [.ow 0 1 0 l.length] [⟨3, 1, inR l⟩] := by
 refine al_ (fn := Tryz.f79) [0] Tryz.func79 rfl rfl (by simp) fun C => ?_
 rw [ay_]
 simp only [Tryz.ntmps79, T7_, List.length_nil, Nat.reduceAdd, Nat.reduceSub, List.replicate_succ, List.replicate_zero, List.cons_append, List.nil_append, bs_]
 refine .seq (.rgn [] (by simp only [go_sem, seval, aa_, ad_]; rfl) ?_ ?_)
 ·first | trivial | simp
 refine .seq (.rgn [] (by simp only [go_sem, seval, aa_, ad_]; rfl) ?_ ?_)
 ·first | trivial | simp
 refine .ret ⟨.inr rfl, ?_⟩
 exact Out.mem' (by simp only [Tryz.results79]; rfl) (by simp only [az_, bj_, go_sem, seval, aa_, ad_]) (by simp only [bg_, rns, rn, go_sem, seval, aa_, ad_] <;> (simp)) (by simp) rfl (by decide) (by simp only [go_sem, seval, aa_, ad_]) (by simp only [av_, go_sem, seval, aa_, ad_]) (by simp only [ao_, go_sem, seval, aa_, ad_] <;> (simp [ck_, aa_]))
theorem adr_ (l : List Int) (hl : l.length < 1099511627776) : ACall En 211 [.sl false (inR l)] [] [.ow 0 1 0 l.length] [⟨3, 1, inR l⟩] := by
 refine al_ (fn := Tryz.f211) [14] Tryz.func211 rfl rfl (by simp) fun C => ?_
 rw [ay_]
 simp only [Tryz.ntmps211, T7_, List.length_nil, Nat.reduceAdd, Nat.reduceSub, List.replicate_succ, List.replicate_zero, List.cons_append, List.nil_append, bs_]
 refine .seq (.rgn [] (by simp only [go_sem, seval, aa_, ad_, ao_, av_, ck_]; rfl) ?_ ?_)
 ·(first | trivial | (simp; done) | (simp [ck_, aa_, ap_]; done))
 refine .seq (.rgn [cv_ [] [14] (afc_ l hl), cv_ [14] [] (tn_ l hl)] (by simp only [go_sem, seval, aa_, ad_, ao_, av_, ck_]; rfl) ?_ ?_)
 ·(first | trivial | (simp; done) | (simp [ck_, aa_, ap_]; done))
 refine .ret ⟨.inr rfl, ?_⟩
 exact Out.mem' (by simp only [Tryz.results211]; rfl) (by simp only [az_, bj_, go_sem, seval, aa_, ad_, ao_, av_, ck_]) (by simp only [bg_, rns, rn, go_sem, seval, aa_, ad_, ao_, av_, ck_] <;> (simp)) (by simp) rfl (by decide) (by simp only [go_sem, seval, aa_, ad_, ao_, av_, ck_]) (by simp only [av_, go_sem, seval, aa_, ad_, ao_, av_, ck_]) (by simp only [ao_, go_sem, seval, aa_, ad_, ao_, av_, ck_] <;> (simp [ck_, aa_]))
theorem afl_ (l : List Int) (hl : l.length < 1099511627776) : ACall En 211 [.sl false (inR l)] [] [.sl false (inR l)] [] :=
 (adr_ l hl).frz1 (by simp [gq_, frz, ad_, T1_])
structure Pg where
 line : Str
 good : Bool
 text : Str
 frm : List Int
deriving DecidableEq
def Pg0 : Pg := ⟨[], false, [], []⟩
def pgC (p : Pg) : List V := [.s p.line, .b p.good, .s p.text, .sl false (inR p.frm)]
def pgR (l : List Pg) : List (List V) := l.map pgC
theorem ag_ (l : List Pg) : (pgR l).length = l.length := by simp [pgR]
theorem ae_ : ∀ l : List Pg, cj_ (pgR l) = true
 | [] => rfl
 | p :: l => by
  show cj_ (pgC p :: pgR l) = true
  simp only [cj_, pgC, cq_, V.pure, aa_, ae_ l, Bool.and_true]
theorem ab1_ (p : Pg) : cq_ (pgC p) = true := by simp only [pgC, cq_, V.pure, aa_, Bool.and_true]
theorem d0_ {l : List Pg} {k : Nat} (h : k < l.length) : (pgR l).getD k [] = pgC (l.getD k Pg0) := by
 simp [pgR, T8_, T6_ h]
theorem ai_ (p : Pg) : pgC p = [.s p.line, .b p.good, .s p.text, .sl false (inR p.frm)] := rfl
def qp_ (s : Str) : Bool := tOk s && !rk_ s
theorem sa_ (s : Str) : rk_ s = decide (1 < (spl s).length) := by
 unfold rk_
 by_cases h : (10 : UInt8) ∈ s
 ·obtain ⟨a, b, rfl, ha⟩ := List.eq_append_cons_of_mem h
  rw [tc_ ha]
  have := List.length_pos_iff.2 (aju_ b)
  simp; omega
 ·rw [pz_ h]; simpa using h
def ka_ (s : Str) : Pg := if qp_ s then (match dm_ s with | none => ⟨s, false, [], []⟩ | some x => ⟨s, true, emT x, emF x⟩) else Pg0
theorem ul_ (s : Str) (hs : s.length ≤ 281474976710656) : ACall En 166 [.s s] [] [.b (qp_ s)] [] := by
 refine al_ (fn := Tryz.f166) [] Tryz.func166 rfl rfl (by simp) fun C => ?_
 rw [ay_]
 simp only [Tryz.ntmps166, T7_, List.length_nil, Nat.reduceAdd, Nat.reduceSub, List.replicate_succ, List.replicate_zero, List.cons_append, List.nil_append, bs_]
 refine .seq (.rgn [] (by simp only [go_sem, seval]; rfl) ?_ ?_)
 ·first | trivial | simp
 refine .seq (.rgn [a9_ (aac_ s hs), a9_ (ahc_ s)] (by simp only [go_sem, seval]; rfl) ?_ ?_)
 ·first | trivial | simp
 refine .ret ⟨.inr rfl, ?_⟩
 exact Out.plain (by simp only [Tryz.results166]; rfl) (by simp only [az_, bj_, go_sem, seval] <;> (split <;> rfl)) (by simp only [bg_, go_sem, seval] <;> (rfl)) (by simp only [go_sem, seval])
end
section
set_option maxRecDepth 100000
set_option maxHeartbeats 4000000
theorem u7_ (s : Str) : gz_ ((dm_ s).getD S0) = true := by
 cases h : dm_ s with
 | none => decide
 | some x =>
  by_cases hc : (b1_ s).isSome = true ∧ sok (rdS (dc_ s)) = true ∧ wv_ (rdS (dc_ s)) = s
  ·rw [pk_ hc.1 hc.2.1 hc.2.2] at h
   cases h; exact ad9_ (t2_ s).1
  ·rw [qf_ hc] at h; cases h
theorem vm_ {s : Str} (h : (dm_ s).isSome = true) : sok ((dm_ s).getD S0) = true := by
 cases hx : dm_ s with
 | none => rw [hx] at h; cases h
 | some x => exact (mv_.1 hx).1
theorem yl_ {s : Str} (h : qp_ s = false) : ka_ s = Pg0 := by unfold ka_; rw [h]; rfl
theorem pf_ {s : Str} (h : qp_ s = true) (h2 : (dm_ s).isSome = false) : ka_ s = ⟨s, false, [], []⟩ := by
 unfold ka_; rw [h]
 cases hx : dm_ s with
 | none => rfl
 | some x => rw [hx] at h2; cases h2
theorem ss_ {s : Str} (h : qp_ s = true) (h2 : (dm_ s).isSome = true) : ka_ s = ⟨s, true, emT ((dm_ s).getD S0), emF ((dm_ s).getD S0)⟩ := by
 unfold ka_; rw [h]
 cases hx : dm_ s with
 | none => rw [hx] at h2; cases h2
 | some x => rfl
theorem al6_ {s : Sl} (h : sok s = true) : (emF s).length = (bw (bof s)).length := by
 have q := gx_ (d3_ h)
 unfold emF; rw [if_pos h, ← sk_ (d3_ h), f6_]
 rw [← q.2, List.length_map]
theorem emFL {s : Sl} (h : sok s = true) : (emF s).length < 1000000 := by rw [al6_ h]; have := (or_ (hh_ (d3_ h))).1; omega
theorem ur_ (s : Str) : (!tOk s || decide (((spl s).length : Int) > 1)) = !qp_ s := by
 unfold qp_; rw [sa_, Bool.not_and, Bool.not_not]; congr 1; exact decide_eq_decide.2 (by omega)
theorem abq_ (s : Str) (hs : s.length ≤ 281474976710656) : ACall En 168 [.s s] [] [.ag (pgC (ka_ s))] [] := by
 have X1 := u7_ s
 have X2 := @vm_ s
 have P1 := @yl_ s
 have P2 := @pf_ s
 have P3 := @ss_ s
 have R := wc_ s hs
 generalize (dm_ s).getD S0 = x at *
 generalize (dm_ s).isSome = ok at *
 refine al_ (fn := Tryz.f168) [] Tryz.func168 rfl rfl (by simp) fun C => ?_
 rw [ay_]
 simp only [Tryz.ntmps168, T7_, List.length_nil, Nat.reduceAdd, Nat.reduceSub, List.replicate_succ, List.replicate_zero, List.cons_append, List.nil_append, bs_]
 refine .seq (.rgn [] (by simp only [go_sem, seval, an_, aa_, ai_]; rfl) ?_ ?_)
 ·(first | trivial | (simp; done) | (simpa using h17) | exact ⟨by simpa using h17, rfl⟩)
 refine .seq (.seq (.rgn [a9_ (ul_ s hs)] (by simp only [go_sem, seval, an_, aa_, ai_]; rfl) ?_ ?_))
 ·(first | trivial | (simp; done) | (simpa using h17) | exact ⟨by simpa using h17, rfl⟩)
 refine .condB (by simp only [go_sem, seval, an_, aa_, ai_]; rfl) (by simp only [go_sem, seval, an_, aa_, ai_]) (fun h9 => ?_) (fun h9 => ?_)
 ·refine .seq (.rgn [] (by simp only [go_sem, seval, an_, aa_, ai_]; rfl) ?_ ?_)
  ·(first | trivial | (simp; done) | (simpa using h17) | exact ⟨by simpa using h17, rfl⟩)
  refine .ret ⟨.inr rfl, ?_⟩
  exact Out.plainL (by simp only [Tryz.results168]; rfl) (by simp only [az_, bj_, go_sem, seval, an_, aa_, ai_] <;> (split <;> rfl)) (by simp only [bg_, go_sem, seval, an_, aa_, ai_] <;> (rw [P1 (by simpa using h9)]; simp [Pg0, les, leV, ler, inR])) (by simp only [go_sem, seval, an_, aa_, ai_])
 ·refine .skip (.seq (.rgn [a9_ R] (by simp only [go_sem, seval, an_, aa_, ai_]; rfl) ?_ ?_))
  ·(first | trivial | (simp; done) | (simpa using h17) | exact ⟨by simpa using h17, rfl⟩)
  refine .seq (.seq (.rgn [] (by simp only [go_sem, seval, an_, aa_, ai_]; rfl) ?_ ?_))
  ·(first | trivial | (simp; done) | (simpa using h17) | exact ⟨by simpa using h17, rfl⟩)
  refine .condB (by simp only [go_sem, seval, an_, aa_, ai_]; rfl) (by simp only [go_sem, seval, an_, aa_, ai_]) (fun h17 => ?_) (fun h17 => ?_)
  ·refine .seq (.rgn [] (by simp only [go_sem, seval, an_, aa_, ai_]; rfl) ?_ ?_)
   ·(first | trivial | (simp; done) | (simpa using h17) | exact ⟨by simpa using h17, rfl⟩)
   refine .ret ⟨.inr rfl, ?_⟩
   exact Out.plainL (by simp only [Tryz.results168]; rfl) (by simp only [az_, bj_, go_sem, seval, an_, aa_, ai_] <;> (split <;> rfl)) (by simp only [bg_, go_sem, seval, an_, aa_, ai_] <;> (rw [P2 (by simpa using h9) (by simpa using h17)]; simp [les, leV, ler, inR])) (by simp only [go_sem, seval, an_, aa_, ai_])
  ·refine .skip (.seq (.rgn [cw_ (ok = true) (fun h => akn_ x (X2 h) X1)] (by simp only [go_sem, seval, an_, aa_, ai_]; rfl) ?_ ?_))
   ·(first | trivial | (simp; done) | (simpa using h17) | exact ⟨by simpa using h17, rfl⟩)
   refine .seq (.rgn [cw_ (ok = true) (fun h => afl_ (emF x) (by have := emFL (X2 h); omega))] (by simp only [go_sem, seval, an_, aa_, ai_]; rfl) ?_ ?_)
   ·(first | trivial | (simp; done) | (simpa using h17) | exact ⟨by simpa using h17, rfl⟩)
   refine .ret ⟨.inr rfl, ?_⟩
   exact Out.plainL (by simp only [Tryz.results168]; rfl) (by simp only [az_, bj_, go_sem, seval, an_, aa_, ai_] <;> (split <;> rfl)) (by simp only [bg_, go_sem, seval, an_, aa_, ai_] <;> (rw [P3 (by simpa using h9) (by simpa using h17)]; simp [les, leV, ler, ap_])) (by simp only [go_sem, seval, an_, aa_, ai_])
theorem aa1_ (s : Str) (hs : s.length ≤ 281474976710656) : ACall En 71 [.s s] [] [.ag (pgC (ka_ s))] [] := by
 have X1 := u7_ s
 have X2 := @vm_ s
 have P1 := @yl_ s
 have P2 := @pf_ s
 have P3 := @ss_ s
 have R := uo_ s hs
 have hn := sa_ s
 have hI : qp_ s = (tOk s && !rk_ s) := rfl
 generalize (dm_ s).getD S0 = x at *
 generalize (dm_ s).isSome = ok at *
 refine al_ (fn := Tryz.f71) [] Tryz.func71 rfl rfl (by simp) fun C => ?_
 rw [ay_]
 simp only [Tryz.ntmps71, T7_, List.length_nil, Nat.reduceAdd, Nat.reduceSub, List.replicate_succ, List.replicate_zero, List.cons_append, List.nil_append, bs_]
 refine .seq (.rgn [] (by simp only [go_sem, seval, an_, aa_, ai_, ac_, ab_]; rfl) ?_ ?_)
 ·first | trivial | simp
 refine .seq (.seq (.rgn [a9_ (sb_ s hs), cw_ (tOk s = true) (fun h => um_ s (zh_ h))] (by simp only [go_sem, seval, an_, aa_, ai_, ac_, ab_]; rfl) ?_ ?_))
 ·first | trivial | simp
 refine .condB (by simp only [go_sem, seval, an_, aa_, ai_, ac_, ab_]; rfl) (by simp only [go_sem, seval, an_, aa_, ai_, ac_, ab_]) (fun h15 => ?_) (fun h15 => ?_)
 ·refine .seq (.rgn [] (by simp only [go_sem, seval, an_, aa_, ai_, ac_, ab_]; rfl) ?_ ?_)
  ·first | trivial | simp
  refine .ret ⟨.inr rfl, ?_⟩
  exact Out.plainL (by simp only [Tryz.results71]; rfl) (by simp only [az_, bj_, go_sem, seval, an_, aa_, ai_, ac_, ab_] <;> (split <;> rfl)) (by simp only [bg_, go_sem, seval, an_, aa_, ai_, ac_, ab_] <;> (rw [ur_] at h15; rw [P1 (by simpa using h15)]; simp [Pg0, les, leV, ler, inR])) (by simp only [go_sem, seval, an_, aa_, ai_, ac_, ab_])
 ·refine .skip (.seq (.rgn [a9_ R] (by simp only [go_sem, seval, an_, aa_, ai_, ac_, ab_]; rfl) ?_ ?_))
  ·first | trivial | simp
  refine .seq (.seq (.rgn [] (by simp only [go_sem, seval, an_, aa_, ai_, ac_, ab_]; rfl) ?_ ?_))
  ·first | trivial | simp
  refine .condB (by simp only [go_sem, seval, an_, aa_, ai_, ac_, ab_]; rfl) (by simp only [go_sem, seval, an_, aa_, ai_, ac_, ab_]) (fun h23 => ?_) (fun h23 => ?_)
  ·refine .seq (.rgn [] (by simp only [go_sem, seval, an_, aa_, ai_, ac_, ab_]; rfl) ?_ ?_)
   ·first | trivial | simp
   refine .ret ⟨.inr rfl, ?_⟩
   exact Out.plainL (by simp only [Tryz.results71]; rfl) (by simp only [az_, bj_, go_sem, seval, an_, aa_, ai_, ac_, ab_] <;> (split <;> rfl)) (by simp only [bg_, go_sem, seval, an_, aa_, ai_, ac_, ab_] <;> (rw [ur_] at h15; rw [P2 (by simpa using h15) (by simpa using h23)]; simp [les, leV, ler, inR])) (by simp only [go_sem, seval, an_, aa_, ai_, ac_, ab_])
  ·refine .skip (.seq (.rgn [a9_ (ub_ x X1)] (by simp only [go_sem, seval, an_, aa_, ai_, ac_, ab_]; rfl) ?_ ?_))
   ·first | trivial | simp
   refine .seq (.rgn [] (by simp only [go_sem, seval, an_, aa_, ai_, ac_, ab_]; rfl) ?_ ?_)
   ·first | trivial | simp
   refine .ret ⟨.inr rfl, ?_⟩
   exact Out.plainL (by simp only [Tryz.results71]; rfl) (by simp only [az_, bj_, go_sem, seval, an_, aa_, ai_, ac_, ab_] <;> (split <;> rfl)) (by simp only [bg_, go_sem, seval, an_, aa_, ai_, ac_, ab_] <;> (rw [ur_] at h15; rw [P3 (by simpa using h15) (by simpa using h23)]; simp [les, leV, ler, ap_])) (by simp only [go_sem, seval, an_, aa_, ai_, ac_, ab_])
theorem n8_ {a b : Pg} (h : (((!(a.line == b.line) || !(a.good == b.good)) || !(a.text == b.text)) || ((a.frm.length : Int) != (b.frm.length : Int))) = false) : a.line = b.line ∧ a.good = b.good ∧ a.text = b.text ∧ a.frm.length = b.frm.length := by
 simp only [Bool.or_eq_false_iff, Bool.not_eq_false', beq_iff_eq, bne_eq_false_iff_eq] at h
 exact ⟨h.1.1.1, h.1.1.2, h.1.2, by omega⟩
end
end Go.Proofs.YtcigkafioinfoaaGreatDoor
