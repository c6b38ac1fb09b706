/- What the library's functions answer: strings.Contains for a newline. Conditions: none. -/
import Derived.Test.YtpikbndepapbhaaGreatDoorKw
import Derived.Lib.IndexAny
import Derived.Test.YtpikbndepapbhaaGreatDoorK7
import Derived.Test.YtpikbndepapbhaaGreatDoorKq
import Derived.Test.YtpikbndepapbhaaGreatDoorKh
import Derived.Test.YtpikbndepapbhaaGreatDoorK8
import Derived.Test.YtpikbndepapbhaaGreatDoorK6
import Derived.Test.YtpikbndepapbhaaGreatDoorKo
set_option linter.unusedVariables false
set_option linter.unusedSimpArgs false
namespace Go.Proofs.YtpikbndepapbhaaGreatDoor
section
open Go.RowKit
set_option maxRecDepth 100000
def lo_ (s : Str) : Bool := s.contains 10
theorem ahd_ (s : Str) : ACall En 85 [.s s, .s [10]] [] [.b (lo_ s)] [] := by
 refine gu_ (fn := Tryz.f85) Tryz.func85 rfl rfl fun S w xs hx _ _ => ?_
 simp only [VRs, VR] at hx
 obtain ⟨x, r, e1, rfl, y, q, e2, rfl, rfl⟩ := hx
 subst e2
 obtain rfl : xs = #[.string ⟨s.toArray⟩, .string ⟨[10].toArray⟩] := by apply Array.ext'; simpa using e1
 refine (Tryz.strings_Contains_one ⟨s.toArray⟩ 10 w).mono ?_
 rintro e w' ⟨rfl, rfl⟩
 refine ⟨[_], rfl, Below.refl _ _, .cons ?_ .nil⟩
 simp only [VR, lo_]
 rw [Lib.contains_iff_indexByte]
end
section
set_option maxRecDepth 100000
set_option maxHeartbeats 4000000
theorem abj_ : ACall En 104 [.sl false []] [] [.ow 0 1 0 0] [⟨3, 1, []⟩] := by
 refine aj_ (fn := Tryz.f104) [17] Tryz.func104 rfl rfl (by simp) fun C => ?_
 rw [a0_]
 simp only [Tryz.ntmps104, T7_, List.length_nil, Nat.reduceAdd, Nat.reduceSub, List.replicate_succ, List.replicate_zero, List.cons_append, List.nil_append, bq_]
 refine .seq (.rgn [] (by simp only [go_sem, seval]; rfl) ?_ ?_)
 ·first | trivial | simp
 refine .seq (.seq (.rgnS [4] [nilO En] (by simp only [go_sem, seval]; rfl) ?_ ?_))
 ·first | trivial | simp
 refine .condQ (by simp only [go_sem, seval] <;> rfl) (by simp only [go_sem, seval]) ?_ ?_
 ·refine .seq (.rgn [] (by simp only [go_sem, seval]; rfl) ?_ ?_)
  ·first | trivial | simp
  refine .can (Can.ownSlot 2 17 3 1 (by simp only [go_sem, seval] <;> rfl) (by simp only [go_sem, seval]) (by simp only [go_sem, seval] <;> rfl)) ?_
  refine .ret ⟨.inr rfl, ?_⟩
  exact Out.mem' (by simp only [Tryz.results104]; rfl) (by simp only [a1_, a9_, go_sem, seval]) (by simp only [a8_, rns, rn, go_sem, seval] <;> (simp)) (by simp) rfl (by decide) (by simp only [go_sem, seval]) (by simp only [ap_, go_sem, seval]) (by simp only [ah_, go_sem, seval] <;> (simp))
 ·refine .skip (.seq (.rgn [] (by simp only [go_sem, seval]; rfl) ?_ ?_))
  ·first | trivial | simp
  refine .ret ⟨.inr rfl, ?_⟩
  exact Out.mem' (by simp only [Tryz.results104]; rfl) (by simp only [a1_, a9_, go_sem, seval]) (by simp only [a8_, rns, rn, go_sem, seval] <;> (simp)) (by simp) rfl (by decide) (by simp only [go_sem, seval]) (by simp only [ap_, go_sem, seval]) (by simp only [ah_, go_sem, seval] <;> (simp))
theorem abi_ (e : Int) (r : List Int) (hl : r.length < 1099511627776) : ACall En 104 [.sl false (inR (e :: r))] [] [.ow 0 1 0 (r.length + 1)] [⟨3, 1, inR (e :: r)⟩] := by
 refine aj_ (fn := Tryz.f104) [17] Tryz.func104 rfl rfl (by simp) fun C => ?_
 rw [a0_]
 simp only [Tryz.ntmps104, T7_, List.length_nil, Nat.reduceAdd, Nat.reduceSub, List.replicate_succ, List.replicate_zero, List.cons_append, List.nil_append, bq_]
 refine .seq (.rgn [] (by simp only [go_sem, seval, ac_, ai_, ar_, b5_, cc_, V.pure]; rfl) ?_ ?_)
 ·first | trivial | simp
 refine .seq (.seq (.rgnS [4] [nilO En] (by simp only [go_sem, seval, ac_, ai_, ar_, b5_, cc_, V.pure]; rfl) ?_ ?_))
 ·first | trivial | simp
 refine .condB (by simp only [go_sem, seval, ac_, ai_, ar_, b5_, cc_, V.pure]; rfl) (by simp only [go_sem, seval, ac_, ai_, ar_, b5_, cc_, V.pure]) (fun h4 => ?_) (fun h4 => ?_)
 ·exact absurd h4 (by simp)
 ·refine .skip (.seq (.rgn [] (by simp only [go_sem, seval, ac_, ai_, ar_, b5_, cc_, V.pure]; rfl) ?_ ?_))
  ·have := ai_ r; simp [ar_, vb_]; omega
  refine .ret ⟨.inr rfl, ?_⟩
  exact Out.mem' (by simp only [Tryz.results104]; rfl) (by simp only [a1_, a9_, go_sem, seval, ac_, ai_, ar_, b5_, cc_, V.pure]) (by simp only [a8_, rns, rn, go_sem, seval, ac_, ai_, ar_, b5_, cc_, V.pure] <;> (simp [ai_])) (by simp) rfl (by decide) (by simp only [go_sem, seval, ac_, ai_, ar_, b5_, cc_, V.pure]) (by simp only [ap_, go_sem, seval, ac_, ai_, ar_, b5_, cc_, V.pure]) (by simp only [ah_, go_sem, seval, ac_, ai_, ar_, b5_, cc_, V.pure] <;> (simp [ar_, ca_, ac_]))
theorem ad5_ (l : List Int) (hl : l.length < 1099511627776) : ACall En 104 [.sl false (inR l)] [] [.ow 0 1 0 l.length] [⟨3, 1, inR l⟩] := by
 cases l with
 | nil => simp only [inR]; exact abj_
 | cons e r => exact abi_ e r (by simp at hl; omega)
theorem yx_ (l : List Int) (hl : l.length < 1099511627776) : ACall En 48 [.ow 0 1 0 l.length] [⟨3, 1, inR l⟩] [.ow 0 1 0 l.length] [⟨3, 1, inR l⟩] := by
 refine aj_ (fn := Tryz.f48) [0] Tryz.func48 rfl rfl (by simp) fun C => ?_
 rw [a0_]
 simp only [Tryz.ntmps48, T7_, List.length_nil, Nat.reduceAdd, Nat.reduceSub, List.replicate_succ, List.replicate_zero, List.cons_append, List.nil_append, bq_]
 refine .seq (.rgn [] (by simp only [go_sem, seval, ac_, ai_]; rfl) ?_ ?_)
 ·first | trivial | simp
 refine .seq (.rgn [] (by simp only [go_sem, seval, ac_, ai_]; rfl) ?_ ?_)
 ·first | trivial | simp
 refine .ret ⟨.inr rfl, ?_⟩
 exact Out.mem' (by simp only [Tryz.results48]; rfl) (by simp only [a1_, a9_, go_sem, seval, ac_, ai_]) (by simp only [a8_, rns, rn, go_sem, seval, ac_, ai_] <;> (simp)) (by simp) rfl (by decide) (by simp only [go_sem, seval, ac_, ai_]) (by simp only [ap_, go_sem, seval, ac_, ai_]) (by simp only [ah_, go_sem, seval, ac_, ai_] <;> (simp [ca_, ac_]))
theorem ad9_ (l : List Int) (hl : l.length < 1099511627776) : ACall En 75 [.sl false (inR l)] [] [.ow 0 1 0 l.length] [⟨3, 1, inR l⟩] := by
 refine aj_ (fn := Tryz.f75) [14] Tryz.func75 rfl rfl (by simp) fun C => ?_
 rw [a0_]
 simp only [Tryz.ntmps75, T7_, List.length_nil, Nat.reduceAdd, Nat.reduceSub, List.replicate_succ, List.replicate_zero, List.cons_append, List.nil_append, bq_]
 refine .seq (.rgn [] (by simp only [go_sem, seval, ac_, ai_, ah_, ap_, ca_]; rfl) ?_ ?_)
 ·(first | trivial | (simp; done) | (simp [ca_, ac_, be_]; done))
 refine .seq (.rgn [bu_ [] [14] (ad5_ l hl), bu_ [14] [] (yx_ l hl)] (by simp only [go_sem, seval, ac_, ai_, ah_, ap_, ca_]; rfl) ?_ ?_)
 ·(first | trivial | (simp; done) | (simp [ca_, ac_, be_]; done))
 refine .ret ⟨.inr rfl, ?_⟩
 exact Out.mem' (by simp only [Tryz.results75]; rfl) (by simp only [a1_, a9_, go_sem, seval, ac_, ai_, ah_, ap_, ca_]) (by simp only [a8_, rns, rn, go_sem, seval, ac_, ai_, ah_, ap_, ca_] <;> (simp)) (by simp) rfl (by decide) (by simp only [go_sem, seval, ac_, ai_, ah_, ap_, ca_]) (by simp only [ap_, go_sem, seval, ac_, ai_, ah_, ap_, ca_]) (by simp only [ah_, go_sem, seval, ac_, ai_, ah_, ap_, ca_] <;> (simp [ca_, ac_]))
theorem ac6_ (l : List Int) (hl : l.length < 1099511627776) : ACall En 75 [.sl false (inR l)] [] [.sl false (inR l)] [] :=
 (ad9_ l hl).frz1 (by simp [gd_, frz, ai_, T1_])
structure Pg where
 line : Str
 good : Bool
 text : Str
 frm : List Int
deriving DecidableEq
def Pg0 : Pg := ⟨[], false, [], []⟩
def pgC (p : Pg) : List V := [.s p.line, .b p.good, .s p.text, .sl false (inR p.frm)]
def pgR (l : List Pg) : List (List V) := l.map pgC
theorem am_ (l : List Pg) : (pgR l).length = l.length := by simp [pgR]
theorem ag_ : ∀ l : List Pg, b5_ (pgR l) = true
 | [] => rfl
 | p :: l => by
  show b5_ (pgC p :: pgR l) = true
  simp only [b5_, pgC, cc_, V.pure, ac_, ag_ l, Bool.and_true]
theorem abr_ (p : Pg) : cc_ (pgC p) = true := by simp only [pgC, cc_, V.pure, ac_, Bool.and_true]
theorem f5_ {l : List Pg} {k : Nat} (h : k < l.length) : (pgR l).getD k [] = pgC (l.getD k Pg0) := by
 simp [pgR, T8_, T6_ h]
theorem an_ (p : Pg) : pgC p = [.s p.line, .b p.good, .s p.text, .sl false (inR p.frm)] := rfl
def il_ (s : Str) : Bool := tOk s && !lo_ s
theorem qw_ (s : Str) : lo_ s = decide (1 < (spl s).length) := by
 unfold lo_
 by_cases h : (10 : UInt8) ∈ s
 ·obtain ⟨a, b, rfl, ha⟩ := List.eq_append_cons_of_mem h
  rw [nx_ ha]
  have := List.length_pos_iff.2 (ow_ b)
  simp; omega
 ·rw [lc_ h]; simpa using h
def et_ (s : Str) : Pg := if il_ s then (match cu_ s with | none => ⟨s, false, [], []⟩ | some x => ⟨s, true, emT x, emF x⟩) else Pg0
theorem vn_ (s : Str) (hs : s.length ≤ 281474976710656) : ACall En 54 [.s s] [] [.b (il_ s)] [] := by
 refine aj_ (fn := Tryz.f54) [] Tryz.func54 rfl rfl (by simp) fun C => ?_
 rw [a0_]
 simp only [Tryz.ntmps54, T7_, List.length_nil, Nat.reduceAdd, Nat.reduceSub, List.replicate_succ, List.replicate_zero, List.cons_append, List.nil_append, bq_]
 refine .seq (.rgn [] (by simp only [go_sem, seval]; rfl) ?_ ?_)
 ·first | trivial | simp
 refine .seq (.rgn [a5_ (re_ s hs), a5_ (ahd_ s)] (by simp only [go_sem, seval]; rfl) ?_ ?_)
 ·first | trivial | simp
 refine .ret ⟨.inr rfl, ?_⟩
 exact Out.plain (by simp only [Tryz.results54]; rfl) (by simp only [a1_, a9_, go_sem, seval] <;> (split <;> rfl)) (by simp only [a8_, go_sem, seval] <;> (rfl)) (by simp only [go_sem, seval])
end
section
set_option maxRecDepth 100000
set_option maxHeartbeats 4000000
theorem ou_ (s : Str) : d6_ ((cu_ s).getD S0) = true := by
 cases h : cu_ s with
 | none => decide
 | some x =>
  by_cases hc : (bt_ s).isSome = true ∧ sok (rdS (cy_ s)) = true ∧ d4_ (rdS (cy_ s)) = s
  ·rw [o0_ hc.1 hc.2.1 hc.2.2] at h
   cases h; exact acg_ (s9_ s).1
  ·rw [oa_ hc] at h; cases h
theorem ts_ {s : Str} (h : (cu_ s).isSome = true) : sok ((cu_ s).getD S0) = true := by
 cases hx : cu_ s with
 | none => rw [hx] at h; cases h
 | some x => exact (lw_.1 hx).1
theorem yu_ {s : Str} (h : il_ s = false) : et_ s = Pg0 := by unfold et_; rw [h]; rfl
theorem og_ {s : Str} (h : il_ s = true) (h2 : (cu_ s).isSome = false) : et_ s = ⟨s, false, [], []⟩ := by
 unfold et_; rw [h]
 cases hx : cu_ s with
 | none => rfl
 | some x => rw [hx] at h2; cases h2
theorem r0_ {s : Str} (h : il_ s = true) (h2 : (cu_ s).isSome = true) : et_ s = ⟨s, true, emT ((cu_ s).getD S0), emF ((cu_ s).getD S0)⟩ := by
 unfold et_; rw [h]
 cases hx : cu_ s with
 | none => rw [hx] at h2; cases h2
 | some x => rfl
theorem ale_ {s : Sl} (h : sok s = true) : (emF s).length = (bw (bof s)).length := by
 have q := go_ (de_ h)
 unfold emF; rw [if_pos h, ← sv_ (de_ h), fz_]
 rw [← q.2, List.length_map]
theorem emFL {s : Sl} (h : sok s = true) : (emF s).length < 1000000 := by rw [ale_ h]; have := (pi_ (g7_ (de_ h))).1; omega
theorem ac4_ (s : Str) : (!tOk s || decide (((spl s).length : Int) > 1)) = !il_ s := by
 unfold il_; rw [qw_, Bool.not_and, Bool.not_not]; congr 1; exact decide_eq_decide.2 (by omega)
theorem rp_ (s : Str) (hs : s.length ≤ 281474976710656) : ACall En 42 [.s s] [] [.ag (pgC (et_ s))] [] := by
 have X1 := ou_ s
 have X2 := @ts_ s
 have P1 := @yu_ s
 have P2 := @og_ s
 have P3 := @r0_ s
 have R := mv_ s hs
 generalize (cu_ s).getD S0 = x at *
 generalize (cu_ s).isSome = ok at *
 refine aj_ (fn := Tryz.f42) [] Tryz.func42 rfl rfl (by simp) fun C => ?_
 rw [a0_]
 simp only [Tryz.ntmps42, T7_, List.length_nil, Nat.reduceAdd, Nat.reduceSub, List.replicate_succ, List.replicate_zero, List.cons_append, List.nil_append, bq_]
 refine .seq (.rgn [] (by simp only [go_sem, seval, af_, ac_, an_]; rfl) ?_ ?_)
 ·(first | trivial | (simp; done) | (simpa using h17) | exact ⟨by simpa using h17, rfl⟩)
 refine .seq (.seq (.rgn [a5_ (vn_ s hs)] (by simp only [go_sem, seval, af_, ac_, an_]; rfl) ?_ ?_))
 ·(first | trivial | (simp; done) | (simpa using h17) | exact ⟨by simpa using h17, rfl⟩)
 refine .condB (by simp only [go_sem, seval, af_, ac_, an_]; rfl) (by simp only [go_sem, seval, af_, ac_, an_]) (fun h9 => ?_) (fun h9 => ?_)
 ·refine .seq (.rgn [] (by simp only [go_sem, seval, af_, ac_, an_]; rfl) ?_ ?_)
  ·(first | trivial | (simp; done) | (simpa using h17) | exact ⟨by simpa using h17, rfl⟩)
  refine .ret ⟨.inr rfl, ?_⟩
  exact Out.plainL (by simp only [Tryz.results42]; rfl) (by simp only [a1_, a9_, go_sem, seval, af_, ac_, an_] <;> (split <;> rfl)) (by simp only [a8_, go_sem, seval, af_, ac_, an_] <;> (rw [P1 (by simpa using h9)]; simp [Pg0, les, leV, ler, inR])) (by simp only [go_sem, seval, af_, ac_, an_])
 ·refine .skip (.seq (.rgn [a5_ R] (by simp only [go_sem, seval, af_, ac_, an_]; rfl) ?_ ?_))
  ·(first | trivial | (simp; done) | (simpa using h17) | exact ⟨by simpa using h17, rfl⟩)
  refine .seq (.seq (.rgn [] (by simp only [go_sem, seval, af_, ac_, an_]; rfl) ?_ ?_))
  ·(first | trivial | (simp; done) | (simpa using h17) | exact ⟨by simpa using h17, rfl⟩)
  refine .condB (by simp only [go_sem, seval, af_, ac_, an_]; rfl) (by simp only [go_sem, seval, af_, ac_, an_]) (fun h17 => ?_) (fun h17 => ?_)
  ·refine .seq (.rgn [] (by simp only [go_sem, seval, af_, ac_, an_]; rfl) ?_ ?_)
   ·(first | trivial | (simp; done) | (simpa using h17) | exact ⟨by simpa using h17, rfl⟩)
   refine .ret ⟨.inr rfl, ?_⟩
   exact Out.plainL (by simp only [Tryz.results42]; rfl) (by simp only [a1_, a9_, go_sem, seval, af_, ac_, an_] <;> (split <;> rfl)) (by simp only [a8_, go_sem, seval, af_, ac_, an_] <;> (rw [P2 (by simpa using h9) (by simpa using h17)]; simp [les, leV, ler, inR])) (by simp only [go_sem, seval, af_, ac_, an_])
  ·refine .skip (.seq (.rgn [cf_ (ok = true) (fun h => w6_ x (X2 h) X1)] (by simp only [go_sem, seval, af_, ac_, an_]; rfl) ?_ ?_))
   ·(first | trivial | (simp; done) | (simpa using h17) | exact ⟨by simpa using h17, rfl⟩)
   refine .seq (.rgn [cf_ (ok = true) (fun h => ac6_ (emF x) (by have := emFL (X2 h); omega))] (by simp only [go_sem, seval, af_, ac_, an_]; rfl) ?_ ?_)
   ·(first | trivial | (simp; done) | (simpa using h17) | exact ⟨by simpa using h17, rfl⟩)
   refine .ret ⟨.inr rfl, ?_⟩
   exact Out.plainL (by simp only [Tryz.results42]; rfl) (by simp only [a1_, a9_, go_sem, seval, af_, ac_, an_] <;> (split <;> rfl)) (by simp only [a8_, go_sem, seval, af_, ac_, an_] <;> (rw [P3 (by simpa using h9) (by simpa using h17)]; simp [les, leV, ler, be_])) (by simp only [go_sem, seval, af_, ac_, an_])
theorem aam_ (s : Str) (hs : s.length ≤ 281474976710656) : ACall En 44 [.s s] [] [.ag (pgC (et_ s))] [] := by
 have X1 := ou_ s
 have X2 := @ts_ s
 have P1 := @yu_ s
 have P2 := @og_ s
 have P3 := @r0_ s
 have R := wk_ s hs
 have hn := qw_ s
 have hI : il_ s = (tOk s && !lo_ s) := rfl
 generalize (cu_ s).getD S0 = x at *
 generalize (cu_ s).isSome = ok at *
 refine aj_ (fn := Tryz.f44) [] Tryz.func44 rfl rfl (by simp) fun C => ?_
 rw [a0_]
 simp only [Tryz.ntmps44, T7_, List.length_nil, Nat.reduceAdd, Nat.reduceSub, List.replicate_succ, List.replicate_zero, List.cons_append, List.nil_append, bq_]
 refine .seq (.rgn [] (by simp only [go_sem, seval, af_, ac_, an_, ab_, aa_]; rfl) ?_ ?_)
 ·first | trivial | simp
 refine .seq (.seq (.rgn [a5_ (q9_ s hs), cf_ (tOk s = true) (fun h => uy_ s (n0_ h))] (by simp only [go_sem, seval, af_, ac_, an_, ab_, aa_]; rfl) ?_ ?_))
 ·first | trivial | simp
 refine .condB (by simp only [go_sem, seval, af_, ac_, an_, ab_, aa_]; rfl) (by simp only [go_sem, seval, af_, ac_, an_, ab_, aa_]) (fun h15 => ?_) (fun h15 => ?_)
 ·refine .seq (.rgn [] (by simp only [go_sem, seval, af_, ac_, an_, ab_, aa_]; rfl) ?_ ?_)
  ·first | trivial | simp
  refine .ret ⟨.inr rfl, ?_⟩
  exact Out.plainL (by simp only [Tryz.results44]; rfl) (by simp only [a1_, a9_, go_sem, seval, af_, ac_, an_, ab_, aa_] <;> (split <;> rfl)) (by simp only [a8_, go_sem, seval, af_, ac_, an_, ab_, aa_] <;> (rw [ac4_] at h15; rw [P1 (by simpa using h15)]; simp [Pg0, les, leV, ler, inR])) (by simp only [go_sem, seval, af_, ac_, an_, ab_, aa_])
 ·refine .skip (.seq (.rgn [a5_ R] (by simp only [go_sem, seval, af_, ac_, an_, ab_, aa_]; rfl) ?_ ?_))
  ·first | trivial | simp
  refine .seq (.seq (.rgn [] (by simp only [go_sem, seval, af_, ac_, an_, ab_, aa_]; rfl) ?_ ?_))
  ·first | trivial | simp
  refine .condB (by simp only [go_sem, seval, af_, ac_, an_, ab_, aa_]; rfl) (by simp only [go_sem, seval, af_, ac_, an_, ab_, aa_]) (fun h23 => ?_) (fun h23 => ?_)
  ·refine .seq (.rgn [] (by simp only [go_sem, seval, af_, ac_, an_, ab_, aa_]; rfl) ?_ ?_)
   ·first | trivial | simp
   refine .ret ⟨.inr rfl, ?_⟩
   exact Out.plainL (by simp only [Tryz.results44]; rfl) (by simp only [a1_, a9_, go_sem, seval, af_, ac_, an_, ab_, aa_] <;> (split <;> rfl)) (by simp only [a8_, go_sem, seval, af_, ac_, an_, ab_, aa_] <;> (rw [ac4_] at h15; rw [P2 (by simpa using h15) (by simpa using h23)]; simp [les, leV, ler, inR])) (by simp only [go_sem, seval, af_, ac_, an_, ab_, aa_])
  ·refine .skip (.seq (.rgn [a5_ (v6_ x X1)] (by simp only [go_sem, seval, af_, ac_, an_, ab_, aa_]; rfl) ?_ ?_))
   ·first | trivial | simp
   refine .seq (.rgn [] (by simp only [go_sem, seval, af_, ac_, an_, ab_, aa_]; rfl) ?_ ?_)
   ·first | trivial | simp
   refine .ret ⟨.inr rfl, ?_⟩
   exact Out.plainL (by simp only [Tryz.results44]; rfl) (by simp only [a1_, a9_, go_sem, seval, af_, ac_, an_, ab_, aa_] <;> (split <;> rfl)) (by simp only [a8_, go_sem, seval, af_, ac_, an_, ab_, aa_] <;> (rw [ac4_] at h15; rw [P3 (by simpa using h15) (by simpa using h23)]; simp [les, leV, ler, be_])) (by simp only [go_sem, seval, af_, ac_, an_, ab_, aa_])
theorem dk_ {a b : Pg} (h : (((!(a.line == b.line) || !(a.good == b.good)) || !(a.text == b.text)) || ((a.frm.length : Int) != (b.frm.length : Int))) = false) : a.line = b.line ∧ a.good = b.good ∧ a.text = b.text ∧ a.frm.length = b.frm.length := by
 simp only [Bool.or_eq_false_iff, Bool.not_eq_false', beq_iff_eq, bne_eq_false_iff_eq] at h
 exact ⟨h.1.1.1, h.1.1.2, h.1.2, by omega⟩
theorem akf_ {a b : Pg} (h : a.line = b.line ∧ a.good = b.good ∧ a.text = b.text ∧ a.frm.length = b.frm.length) {j : Nat} (hj : a.frm.length ≤ j) (hf : a.frm.take j = b.frm.take j) : a = b := by
 obtain ⟨l, g, t, f⟩ := a
 obtain ⟨l', g', t', f'⟩ := b
 obtain ⟨rfl, rfl, rfl, hl⟩ := h
 dsimp only at hl hj hf
 rw [T1_ hj, T1_ (by omega)] at hf
 rw [hf]
theorem cl_ {α β : Type} {a : List α} {b : List β} (h : ((a.length : Int) != (b.length : Int)) = false) : a.length = b.length := by
 rw [bne_eq_false_iff_eq] at h; omega
theorem ab5_ (a b : List Pg) (ha : a.length ≤ 1000000) (hb : b.length ≤ 1000000) (hA : ∀ p ∈ a, p.frm.length ≤ 4000000) : ACall En 15 [.sl false (pgR a), .sl false (pgR b)] [] [.b (decide (a = b))] [] := by
 refine aj_ (fn := Tryz.f15) [] Tryz.func15 rfl rfl (by simp) fun C => ?_
 rw [a0_]
 simp only [Tryz.ntmps15, T7_, List.length_nil, Nat.reduceAdd, Nat.reduceSub, List.replicate_succ, List.replicate_zero, List.cons_append, List.nil_append, bq_]
 refine .seq (.rgn [] (by simp only [go_sem, seval, am_, ag_, ai_, ac_, an_]; rfl) ?_ ?_)
 ·(first | trivial | (simp; done) | (have q := cl_ h11; simp only [T3_] at h15; and_intros <;> first | omega | exact fun h => ⟨h, by omega, by omega⟩ | exact fun h => by rw [h]; rfl) | (have q := cl_ h11; have q2 := (dk_ h69).2.2.2; simp only [T3_] at h15 h77; and_intros <;> omega))
 refine .seq (.seq (.rgn [] (by simp only [go_sem, seval, am_, ag_, ai_, ac_, an_]; rfl) ?_ ?_))
 ·(first | trivial | (simp; done) | (have q := cl_ h11; simp only [T3_] at h15; and_intros <;> first | omega | exact fun h => ⟨h, by omega, by omega⟩ | exact fun h => by rw [h]; rfl) | (have q := cl_ h11; have q2 := (dk_ h69).2.2.2; simp only [T3_] at h15 h77; and_intros <;> omega))
 refine .condB (by simp only [go_sem, seval, am_, ag_, ai_, ac_, an_]; rfl) (by simp only [go_sem, seval, am_, ag_, ai_, ac_, an_]) (fun h11 => ?_) (fun h11 => ?_)
 ·refine .seq (.rgn [] (by simp only [go_sem, seval, am_, ag_, ai_, ac_, an_]; rfl) ?_ ?_)
  ·(first | trivial | (simp; done) | (have q := cl_ h11; simp only [T3_] at h15; and_intros <;> first | omega | exact fun h => ⟨h, by omega, by omega⟩ | exact fun h => by rw [h]; rfl) | (have q := cl_ h11; have q2 := (dk_ h69).2.2.2; simp only [T3_] at h15 h77; and_intros <;> omega))
  refine .ret ⟨.inr rfl, ?_⟩
  exact Out.plain (by simp only [Tryz.results15]; rfl) (by simp only [a1_, a9_, go_sem, seval, am_, ag_, ai_, ac_, an_] <;> (split <;> rfl)) (by simp only [a8_, go_sem, seval, am_, ag_, ai_, ac_, an_] <;> (rw [decide_eq_false]; rintro rfl; simp at h11)) (by simp only [go_sem, seval, am_, ag_, ai_, ac_, an_])
 ·refine .skip (.seq (.seq (.rgn [] (by simp only [go_sem, seval, am_, ag_, ai_, ac_, an_]; rfl) ?_ ?_)))
  ·(first | trivial | (simp; done) | (have q := cl_ h11; simp only [T3_] at h15; and_intros <;> first | omega | exact fun h => ⟨h, by omega, by omega⟩ | exact fun h => by rw [h]; rfl) | (have q := cl_ h11; have q2 := (dk_ h69).2.2.2; simp only [T3_] at h15 h77; and_intros <;> omega))
  refine .block (.loopK (fun k : Nat => ⟨[.sl false (pgR a), .sl false (pgR b), .no, .no, .no, .i .i64 k, .no, .no, .no, .no, .no, .no, .no, .no, .no, .no, .no, .no, .no, .no, .no, .no, .no, .no, .no, .no, .no, .no, .no, .no, .no, .no, .no, .no, .no, .no, .no, .no, .no, .no, .no, .no, .no, .no, .no, .no, .no, .no, .no, .no, .no, .no, .no, .no, .no, .no, .no, .no, .no, .no, .no, .no, .no, .no, .no, .no, .no, .no, .no, .no, .no, .no, .no, .no, .no, .no, .no, .no, .no, .no, .no, .no, .no, .no, .no, .no, .no, .no, .no, .no, .no, .no, .no, .no, .no, .no, .no], bg_ [], us []⟩) (fun k : Nat => k ≤ a.length ∧ a.take k = b.take k) (fun k : Nat => a.length - k) (0) ?_ ?_ (fun k hI => ?_))
  ·exact ⟨Nat.zero_le _, rfl⟩
  ·exact Can.weak (Weak.lit (by simp only [go_sem, seval, am_, ag_, ai_, ac_, an_, av_, leV, at_, au_, V.inn, us, T9_, Ta_] <;> ((try simp))) (by simp only [go_sem, seval, am_, ag_, ai_, ac_, an_, av_, leV, at_, au_, V.inn, us, T9_, Ta_]) (by simp only [go_sem, seval, am_, ag_, ai_, ac_, an_, av_, leV, at_, au_, V.inn, us, T9_, Ta_]))
  refine .seq (.seq (.rgn [] (by simp only [go_sem, seval, am_, ag_, ai_, ac_, an_]; rfl) ?_ ?_))
  ·(first | trivial | (simp; done) | (have q := cl_ h11; simp only [T3_] at h15; and_intros <;> first | omega | exact fun h => ⟨h, by omega, by omega⟩ | exact fun h => by rw [h]; rfl) | (have q := cl_ h11; have q2 := (dk_ h69).2.2.2; simp only [T3_] at h15 h77; and_intros <;> omega))
  refine .condB (by simp only [go_sem, seval, am_, ag_, ai_, ac_, an_]; rfl) (by simp only [go_sem, seval, am_, ag_, ai_, ac_, an_]) (fun h15 => ?_) (fun h15 => ?_)
  ·refine .skip (.seq (.block (.seq (.seq (.rgnD [] enM (by simp only [go_sem, seval, am_, ag_, ai_, ac_, an_, f5_ (show k < a.length by simpa using h15), f5_ (show k < b.length by have q := cl_ h11; simp only [T3_] at h15; omega)]; rfl) (by rfl) ?_ ?_)))))
   ·(first | trivial | (simp; done) | (have q := cl_ h11; simp only [T3_] at h15; and_intros <;> first | omega | exact fun h => ⟨h, by omega, by omega⟩ | exact fun h => by rw [h]; rfl) | (have q := cl_ h11; have q2 := (dk_ h69).2.2.2; simp only [T3_] at h15 h77; and_intros <;> omega))
   refine .condB (by simp only [go_sem, seval, am_, ag_, ai_, ac_, an_]; rfl) (by simp only [go_sem, seval, am_, ag_, ai_, ac_, an_]) (fun h69 => ?_) (fun h69 => ?_)
   ·refine .seq (.rgn [] (by simp only [go_sem, seval, am_, ag_, ai_, ac_, an_]; rfl) ?_ ?_)
    ·(first | trivial | (simp; done) | (have q := cl_ h11; simp only [T3_] at h15; and_intros <;> first | omega | exact fun h => ⟨h, by omega, by omega⟩ | exact fun h => by rw [h]; rfl) | (have q := cl_ h11; have q2 := (dk_ h69).2.2.2; simp only [T3_] at h15 h77; and_intros <;> omega))
    refine .ret ⟨.inr rfl, ?_⟩
    exact Out.plain (by simp only [Tryz.results15]; rfl) (by simp only [a1_, a9_, go_sem, seval, am_, ag_, ai_, ac_, an_] <;> (split <;> rfl)) (by simp only [a8_, go_sem, seval, am_, ag_, ai_, ac_, an_] <;> (rw [decide_eq_false]; rintro rfl; simp at h69)) (by simp only [go_sem, seval, am_, ag_, ai_, ac_, an_])
   ·refine .skip (.seq (.rgn [] (by simp only [go_sem, seval, am_, ag_, ai_, ac_, an_]; rfl) ?_ ?_))
    ·(first | trivial | (simp; done) | (have q := cl_ h11; simp only [T3_] at h15; and_intros <;> first | omega | exact fun h => ⟨h, by omega, by omega⟩ | exact fun h => by rw [h]; rfl) | (have q := cl_ h11; have q2 := (dk_ h69).2.2.2; simp only [T3_] at h15 h77; and_intros <;> omega))
    refine .block (.loopK (fun j : Nat => ⟨[.sl false (pgR a), .sl false (pgR b), .no, .no, .no, .i .i64 k, .i .i64 j, .no, .no, .no, .no, .no, .no, .no, .no, .no, .no, .no, .no, .no, .no, .no, .no, .no, .no, .no, .no, .no, .no, .no, .no, .no, .no, .no, .no, .no, .no, .no, .no, .no, .no, .no, .no, .no, .no, .no, .no, .no, .no, .no, .no, .no, .no, .no, .no, .no, .no, .no, .no, .no, .no, .no, .no, .no, .no, .no, .no, .no, .no, .no, .no, .no, .no, .no, .no, .no, .no, .no, .no, .no, .no, .no, .no, .no, .no, .no, .no, .no, .no, .no, .no, .no, .no, .no, .no, .no, .no], bg_ [], us []⟩) (fun j : Nat => k ≤ a.length ∧ a.take k = b.take k ∧ j ≤ (a.getD k Pg0).frm.length ∧ (a.getD k Pg0).frm.take j = (b.getD k Pg0).frm.take j) (fun j : Nat => (a.getD k Pg0).frm.length - j) (0) ?_ ?_ (fun j hI => ?_))
    ·exact ⟨hI.1, hI.2, Nat.zero_le _, rfl⟩
    ·exact Can.weak (Weak.lit (by simp only [go_sem, seval, am_, ag_, ai_, ac_, an_, av_, leV, at_, au_, V.inn, us, T9_, Ta_] <;> ((try simp))) (by simp only [go_sem, seval, am_, ag_, ai_, ac_, an_, av_, leV, at_, au_, V.inn, us, T9_, Ta_]) (by simp only [go_sem, seval, am_, ag_, ai_, ac_, an_, av_, leV, at_, au_, V.inn, us, T9_, Ta_]))
    refine .seq (.seq (.rgn [] (by simp only [go_sem, seval, am_, ag_, ai_, ac_, an_, f5_ (show k < a.length by simpa using h15)]; rfl) ?_ ?_))
    ·(first | trivial | (simp; done) | (have q := cl_ h11; simp only [T3_] at h15; and_intros <;> first | omega | exact fun h => ⟨h, by omega, by omega⟩ | exact fun h => by rw [h]; rfl) | (have q := cl_ h11; have q2 := (dk_ h69).2.2.2; simp only [T3_] at h15 h77; and_intros <;> omega))
    refine .condB (by simp only [go_sem, seval, am_, ag_, ai_, ac_, an_]; rfl) (by simp only [go_sem, seval, am_, ag_, ai_, ac_, an_]) (fun h77 => ?_) (fun h77 => ?_)
    ·refine .skip (.seq (.block (.seq (.rgnD [] enM (by simp only [go_sem, seval, am_, ag_, ai_, ac_, an_, f5_ (show k < a.length by simpa using h15), f5_ (show k < b.length by have q := cl_ h11; simp only [T3_] at h15; omega), fd_ (show j < (a.getD k Pg0).frm.length by simpa using h77), fd_ (show j < (b.getD k Pg0).frm.length by have q := (dk_ h69).2.2.2; simp only [T3_] at h77; omega)]; rfl) (by rfl) ?_ ?_))))
     ·(first | trivial | (simp; done) | (have q := cl_ h11; simp only [T3_] at h15; and_intros <;> first | omega | exact fun h => ⟨h, by omega, by omega⟩ | exact fun h => by rw [h]; rfl) | (have q := cl_ h11; have q2 := (dk_ h69).2.2.2; simp only [T3_] at h15 h77; and_intros <;> omega))
     refine .condB (by simp only [go_sem, seval, am_, ag_, ai_, ac_, an_]; rfl) (by simp only [go_sem, seval, am_, ag_, ai_, ac_, an_]) (fun h96 => ?_) (fun h96 => ?_)
     ·refine .seq (.rgn [] (by simp only [go_sem, seval, am_, ag_, ai_, ac_, an_]; rfl) ?_ ?_)
      ·(first | trivial | (simp; done) | (have q := cl_ h11; simp only [T3_] at h15; and_intros <;> first | omega | exact fun h => ⟨h, by omega, by omega⟩ | exact fun h => by rw [h]; rfl) | (have q := cl_ h11; have q2 := (dk_ h69).2.2.2; simp only [T3_] at h15 h77; and_intros <;> omega))
      refine .ret ⟨.inr rfl, ?_⟩
      exact Out.plain (by simp only [Tryz.results15]; rfl) (by simp only [a1_, a9_, go_sem, seval, am_, ag_, ai_, ac_, an_] <;> (split <;> rfl)) (by simp only [a8_, go_sem, seval, am_, ag_, ai_, ac_, an_] <;> (rw [decide_eq_false]; rintro rfl; simp at h96)) (by simp only [go_sem, seval, am_, ag_, ai_, ac_, an_])
     ·refine .skip (.rgn [] (by simp only [go_sem, seval, am_, ag_, ai_, ac_, an_]; rfl) ?_ ?_)
      ·(first | trivial | (simp; done) | (have q := cl_ h11; simp only [T3_] at h15; and_intros <;> first | omega | exact fun h => ⟨h, by omega, by omega⟩ | exact fun h => by rw [h]; rfl) | (have q := cl_ h11; have q2 := (dk_ h69).2.2.2; simp only [T3_] at h15 h77; and_intros <;> omega))
      refine Exists.intro (j + 1) ⟨?_, ?_, ?_⟩
      ·have q2 := (dk_ h69).2.2.2; simp only [T3_] at h77; exact ⟨hI.1, hI.2.1, by omega, oy_ (d := 0) (by omega) (by omega) hI.2.2.2 (bne_eq_false_iff_eq.1 h96)⟩
      ·simp only [T3_] at h77; omega
      exact Can.weak (Weak.lit (by simp only [go_sem, seval, am_, ag_, ai_, ac_, an_, av_, leV, at_, au_, V.inn, us, T9_, Ta_] <;> (simp only [T3_] at h77 h15; have := hA _ (bk_ (d := Pg0) (show k < a.length by omega)); exact bh_ (n := ((j + 1 : Nat) : Int)) (by omega) (by omega))) (by simp only [go_sem, seval, am_, ag_, ai_, ac_, an_, av_, leV, at_, au_, V.inn, us, T9_, Ta_]) (by simp only [go_sem, seval, am_, ag_, ai_, ac_, an_, av_, leV, at_, au_, V.inn, us, T9_, Ta_]))
    ·refine .exit (.rgn [] (by simp only [go_sem, seval, am_, ag_, ai_, ac_, an_]; rfl) ?_ ?_)
     ·(first | trivial | (simp; done) | (have q := cl_ h11; simp only [T3_] at h15; and_intros <;> first | omega | exact fun h => ⟨h, by omega, by omega⟩ | exact fun h => by rw [h]; rfl) | (have q := cl_ h11; have q2 := (dk_ h69).2.2.2; simp only [T3_] at h15 h77; and_intros <;> omega))
     refine Exists.intro (k + 1) ⟨?_, ?_, ?_⟩
     ·have q := cl_ h11; simp only [T3_] at h15; simp only [T4_] at h77; exact ⟨by omega, oy_ (d := Pg0) (by omega) (by omega) hI.2.1 (akf_ (dk_ h69) (by omega) hI.2.2.2)⟩
     ·simp only [T3_] at h15; omega
     exact Can.weak (Weak.lit (by simp only [go_sem, seval, am_, ag_, ai_, ac_, an_, av_, leV, at_, au_, V.inn, us, T9_, Ta_] <;> (simp only [T3_] at h15; exact bh_ (n := ((k + 1 : Nat) : Int)) (by omega) (by omega))) (by simp only [go_sem, seval, am_, ag_, ai_, ac_, an_, av_, leV, at_, au_, V.inn, us, T9_, Ta_]) (by simp only [go_sem, seval, am_, ag_, ai_, ac_, an_, av_, leV, at_, au_, V.inn, us, T9_, Ta_]))
  ·refine .exit (.seq (.rgn [] (by simp only [go_sem, seval, am_, ag_, ai_, ac_, an_]; rfl) ?_ ?_))
   ·(first | trivial | (simp; done) | (have q := cl_ h11; simp only [T3_] at h15; and_intros <;> first | omega | exact fun h => ⟨h, by omega, by omega⟩ | exact fun h => by rw [h]; rfl) | (have q := cl_ h11; have q2 := (dk_ h69).2.2.2; simp only [T3_] at h15 h77; and_intros <;> omega))
   refine .ret ⟨.inr rfl, ?_⟩
   exact Out.plain (by simp only [Tryz.results15]; rfl) (by simp only [a1_, a9_, go_sem, seval, am_, ag_, ai_, ac_, an_] <;> (split <;> rfl)) (by simp only [a8_, go_sem, seval, am_, ag_, ai_, ac_, an_] <;> (have q := cl_ h11; simp only [T4_] at h15; have e := hI.2; rw [T1_ (by omega), T1_ (by omega)] at e; rw [decide_eq_true e])) (by simp only [go_sem, seval, am_, ag_, ai_, ac_, an_])
end
end Go.Proofs.YtpikbndepapbhaaGreatDoor
