/- What the library's functions answer: strings.Contains for a newline. Conditions: none. -/
import Derived.Test.YtpikbndepapbhaaGreatDoorKw
import Derived.Lib.IndexAny
import Derived.Test.YtpikbndepapbhaaGreatDoorK7
import Derived.Test.YtpikbndepapbhaaGreatDoorKq
import Derived.Test.YtpikbndepapbhaaGreatDoorKh
import Derived.Test.YtpikbndepapbhaaGreatDoorK8
import Derived.Test.YtpikbndepapbhaaGreatDoorK6
import Derived.Test.YtpikbndepapbhaaGreatDoorKo
set_option linter.unusedVariables false
set_option linter.unusedSimpArgs false
namespace Go.Proofs.YtpikbndepapbhaaGreatDoor
section
open Go.RowKit
set_option maxRecDepth 100000
def op_ (s : Str) : Bool := s.contains 10
theorem aiz_ (s : Str) : ACall En 85 [.s s, .s [10]] [] [.b (op_ s)] [] := by
 refine g3_ (fn := Tryz.f85) Tryz.func85 rfl rfl fun S w xs hx _ _ => ?_
 simp only [VRs, VR] at hx
 obtain ⟨x, r, e1, rfl, y, q, e2, rfl, rfl⟩ := hx
 subst e2
 obtain rfl : xs = #[.string ⟨s.toArray⟩, .string ⟨[10].toArray⟩] := by apply Array.ext'; simpa using e1
 refine (Tryz.strings_Contains_one ⟨s.toArray⟩ 10 w).mono ?_
 rintro e w' ⟨rfl, rfl⟩
 refine ⟨[_], rfl, Below.refl _ _, .cons ?_ .nil⟩
 simp only [VR, op_]
 rw [Lib.contains_iff_indexByte]
end
section
set_option maxRecDepth 100000
set_option maxHeartbeats 4000000
theorem aau_ : ACall En 104 [.sl false []] [] [.ow 0 1 0 0] [⟨3, 1, []⟩] := by
 refine al_ (fn := Tryz.f104) [17] Tryz.func104 rfl rfl (by simp) fun C => ?_
 rw [av_]
 simp only [Tryz.ntmps104, T7_, List.length_nil, Nat.reduceAdd, Nat.reduceSub, List.replicate_succ, List.replicate_zero, List.cons_append, List.nil_append, bt_]
 refine .seq (.rgn [] (by simp only [go_sem, seval]; rfl) ?_ ?_)
 ·first | trivial | simp
 refine .seq (.seq (.rgnS [4] [nilO En] (by simp only [go_sem, seval]; rfl) ?_ ?_))
 ·first | trivial | simp
 refine .condQ (by simp only [go_sem, seval] <;> rfl) (by simp only [go_sem, seval]) ?_ ?_
 ·refine .seq (.rgn [] (by simp only [go_sem, seval]; rfl) ?_ ?_)
  ·first | trivial | simp
  refine .can (Can.ownSlot 2 17 3 1 (by simp only [go_sem, seval] <;> rfl) (by simp only [go_sem, seval]) (by simp only [go_sem, seval] <;> rfl)) ?_
  refine .ret ⟨.inr rfl, ?_⟩
  exact Out.mem' (by simp only [Tryz.results104]; rfl) (by simp only [ax_, a6_, go_sem, seval]) (by simp only [a4_, rns, rn, go_sem, seval] <;> (simp)) (by simp) rfl (by decide) (by simp only [go_sem, seval]) (by simp only [ak_, go_sem, seval]) (by simp only [ag_, go_sem, seval] <;> (simp))
 ·refine .skip (.seq (.rgn [] (by simp only [go_sem, seval]; rfl) ?_ ?_))
  ·first | trivial | simp
  refine .ret ⟨.inr rfl, ?_⟩
  exact Out.mem' (by simp only [Tryz.results104]; rfl) (by simp only [ax_, a6_, go_sem, seval]) (by simp only [a4_, rns, rn, go_sem, seval] <;> (simp)) (by simp) rfl (by decide) (by simp only [go_sem, seval]) (by simp only [ak_, go_sem, seval]) (by simp only [ag_, go_sem, seval] <;> (simp))
theorem aam_ (e : Int) (r : List Int) (hl : r.length < 1099511627776) : ACall En 104 [.sl false (inR (e :: r))] [] [.ow 0 1 0 (r.length + 1)] [⟨3, 1, inR (e :: r)⟩] := by
 refine al_ (fn := Tryz.f104) [17] Tryz.func104 rfl rfl (by simp) fun C => ?_
 rw [av_]
 simp only [Tryz.ntmps104, T7_, List.length_nil, Nat.reduceAdd, Nat.reduceSub, List.replicate_succ, List.replicate_zero, List.cons_append, List.nil_append, bt_]
 refine .seq (.rgn [] (by simp only [go_sem, seval, ac_, an_, ap_, ch_, cs_, V.pure]; rfl) ?_ ?_)
 ·first | trivial | simp
 refine .seq (.seq (.rgnS [4] [nilO En] (by simp only [go_sem, seval, ac_, an_, ap_, ch_, cs_, V.pure]; rfl) ?_ ?_))
 ·first | trivial | simp
 refine .condB (by simp only [go_sem, seval, ac_, an_, ap_, ch_, cs_, V.pure]; rfl) (by simp only [go_sem, seval, ac_, an_, ap_, ch_, cs_, V.pure]) (fun h4 => ?_) (fun h4 => ?_)
 ·exact absurd h4 (by simp)
 ·refine .skip (.seq (.rgn [] (by simp only [go_sem, seval, ac_, an_, ap_, ch_, cs_, V.pure]; rfl) ?_ ?_))
  ·have := an_ r; simp [ap_, uv_]; omega
  refine .ret ⟨.inr rfl, ?_⟩
  exact Out.mem' (by simp only [Tryz.results104]; rfl) (by simp only [ax_, a6_, go_sem, seval, ac_, an_, ap_, ch_, cs_, V.pure]) (by simp only [a4_, rns, rn, go_sem, seval, ac_, an_, ap_, ch_, cs_, V.pure] <;> (simp [an_])) (by simp) rfl (by decide) (by simp only [go_sem, seval, ac_, an_, ap_, ch_, cs_, V.pure]) (by simp only [ak_, go_sem, seval, ac_, an_, ap_, ch_, cs_, V.pure]) (by simp only [ag_, go_sem, seval, ac_, an_, ap_, ch_, cs_, V.pure] <;> (simp [ap_, cl_, ac_]))
theorem afc_ (l : List Int) (hl : l.length < 1099511627776) : ACall En 104 [.sl false (inR l)] [] [.ow 0 1 0 l.length] [⟨3, 1, inR l⟩] := by
 cases l with
 | nil => simp only [inR]; exact aau_
 | cons e r => exact aam_ e r (by simp at hl; omega)
theorem ah5_ (l : List Int) (hl : l.length < 1099511627776) : ACall En 48 [.ow 0 1 0 l.length] [⟨3, 1, inR l⟩] [.ow 0 1 0 l.length] [⟨3, 1, inR l⟩] := by
 refine al_ (fn := Tryz.f48) [0] Tryz.func48 rfl rfl (by simp) fun C => ?_
 rw [av_]
 simp only [Tryz.ntmps48, T7_, List.length_nil, Nat.reduceAdd, Nat.reduceSub, List.replicate_succ, List.replicate_zero, List.cons_append, List.nil_append, bt_]
 refine .seq (.rgn [] (by simp only [go_sem, seval, ac_, an_]; rfl) ?_ ?_)
 ·first | trivial | simp
 refine .seq (.rgn [] (by simp only [go_sem, seval, ac_, an_]; rfl) ?_ ?_)
 ·first | trivial | simp
 refine .ret ⟨.inr rfl, ?_⟩
 exact Out.mem' (by simp only [Tryz.results48]; rfl) (by simp only [ax_, a6_, go_sem, seval, ac_, an_]) (by simp only [a4_, rns, rn, go_sem, seval, ac_, an_] <;> (simp)) (by simp) rfl (by decide) (by simp only [go_sem, seval, ac_, an_]) (by simp only [ak_, go_sem, seval, ac_, an_]) (by simp only [ag_, go_sem, seval, ac_, an_] <;> (simp [cl_, ac_]))
theorem v1_ (l : List Int) (hl : l.length < 1099511627776) : ACall En 75 [.sl false (inR l)] [] [.ow 0 1 0 l.length] [⟨3, 1, inR l⟩] := by
 refine al_ (fn := Tryz.f75) [14] Tryz.func75 rfl rfl (by simp) fun C => ?_
 rw [av_]
 simp only [Tryz.ntmps75, T7_, List.length_nil, Nat.reduceAdd, Nat.reduceSub, List.replicate_succ, List.replicate_zero, List.cons_append, List.nil_append, bt_]
 refine .seq (.rgn [] (by simp only [go_sem, seval, ac_, an_, ag_, ak_, cl_]; rfl) ?_ ?_)
 ·(first | trivial | (simp; done) | (simp [cl_, ac_, a8_]; done))
 refine .seq (.rgn [bw_ [] [14] (afc_ l hl), bw_ [14] [] (ah5_ l hl)] (by simp only [go_sem, seval, ac_, an_, ag_, ak_, cl_]; rfl) ?_ ?_)
 ·(first | trivial | (simp; done) | (simp [cl_, ac_, a8_]; done))
 refine .ret ⟨.inr rfl, ?_⟩
 exact Out.mem' (by simp only [Tryz.results75]; rfl) (by simp only [ax_, a6_, go_sem, seval, ac_, an_, ag_, ak_, cl_]) (by simp only [a4_, rns, rn, go_sem, seval, ac_, an_, ag_, ak_, cl_] <;> (simp)) (by simp) rfl (by decide) (by simp only [go_sem, seval, ac_, an_, ag_, ak_, cl_]) (by simp only [ak_, go_sem, seval, ac_, an_, ag_, ak_, cl_]) (by simp only [ag_, go_sem, seval, ac_, an_, ag_, ak_, cl_] <;> (simp [cl_, ac_]))
theorem acr_ (l : List Int) (hl : l.length < 1099511627776) : ACall En 75 [.sl false (inR l)] [] [.sl false (inR l)] [] :=
 (v1_ l hl).frz1 (by simp [fx_, frz, an_, T1_])
structure Pg where
 line : Str
 good : Bool
 text : Str
 frm : List Int
deriving DecidableEq
def Pg0 : Pg := ⟨[], false, [], []⟩
def pgC (p : Pg) : List V := [.s p.line, .b p.good, .s p.text, .sl false (inR p.frm)]
def pgR (l : List Pg) : List (List V) := l.map pgC
theorem af_ (l : List Pg) : (pgR l).length = l.length := by simp [pgR]
theorem ad_ : ∀ l : List Pg, ch_ (pgR l) = true
 | [] => rfl
 | p :: l => by
  show ch_ (pgC p :: pgR l) = true
  simp only [ch_, pgC, cs_, V.pure, ac_, ad_ l, Bool.and_true]
theorem qi_ (p : Pg) : cs_ (pgC p) = true := by simp only [pgC, cs_, V.pure, ac_, Bool.and_true]
theorem dq_ {l : List Pg} {k : Nat} (h : k < l.length) : (pgR l).getD k [] = pgC (l.getD k Pg0) := by
 simp [pgR, T8_, T6_ h]
theorem ai_ (p : Pg) : pgC p = [.s p.line, .b p.good, .s p.text, .sl false (inR p.frm)] := rfl
def fe_ (s : Str) : Bool := tOk s && !op_ s
theorem q5_ (s : Str) : op_ s = decide (1 < (spl s).length) := by
 unfold op_
 by_cases h : (10 : UInt8) ∈ s
 ·obtain ⟨a, b, rfl, ha⟩ := List.eq_append_cons_of_mem h
  rw [lc_ ha]
  have := List.length_pos_iff.2 (ab5_ b)
  simp; omega
 ·rw [jo_ h]; simpa using h
def d2_ (s : Str) : Pg := if fe_ s then (match dy_ s with | none => ⟨s, false, [], []⟩ | some x => ⟨s, true, emT x, emF x⟩) else Pg0
theorem ok_ (s : Str) (hs : s.length ≤ 281474976710656) : ACall En 54 [.s s] [] [.b (fe_ s)] [] := by
 refine al_ (fn := Tryz.f54) [] Tryz.func54 rfl rfl (by simp) fun C => ?_
 rw [av_]
 simp only [Tryz.ntmps54, T7_, List.length_nil, Nat.reduceAdd, Nat.reduceSub, List.replicate_succ, List.replicate_zero, List.cons_append, List.nil_append, bt_]
 refine .seq (.rgn [] (by simp only [go_sem, seval]; rfl) ?_ ?_)
 ·first | trivial | simp
 refine .seq (.rgn [a3_ (r4_ s hs), a3_ (aiz_ s)] (by simp only [go_sem, seval]; rfl) ?_ ?_)
 ·first | trivial | simp
 refine .ret ⟨.inr rfl, ?_⟩
 exact Out.plain (by simp only [Tryz.results54]; rfl) (by simp only [ax_, a6_, go_sem, seval] <;> (split <;> rfl)) (by simp only [a4_, go_sem, seval] <;> (rfl)) (by simp only [go_sem, seval])
end
section
set_option maxRecDepth 100000
set_option maxHeartbeats 4000000
theorem wa_ (s : Str) : ez_ ((dy_ s).getD S0) = true := by
 cases h : dy_ s with
 | none => decide
 | some x =>
  by_cases hc : (ci_ s).isSome = true ∧ sok (rdS (dd_ s)) = true ∧ el_ (rdS (dd_ s)) = s
  ·rw [qe_ hc.1 hc.2.1 hc.2.2] at h
   cases h; exact ac0_ (st_ s).1
  ·rw [oo_ hc] at h; cases h
theorem vp_ {s : Str} (h : (dy_ s).isSome = true) : sok ((dy_ s).getD S0) = true := by
 cases hx : dy_ s with
 | none => rw [hx] at h; cases h
 | some x => exact (sc_.1 hx).1
theorem y1_ {s : Str} (h : fe_ s = false) : d2_ s = Pg0 := by unfold d2_; rw [h]; rfl
theorem uo_ {s : Str} (h : fe_ s = true) (h2 : (dy_ s).isSome = false) : d2_ s = ⟨s, false, [], []⟩ := by
 unfold d2_; rw [h]
 cases hx : dy_ s with
 | none => rfl
 | some x => rw [hx] at h2; cases h2
theorem yx_ {s : Str} (h : fe_ s = true) (h2 : (dy_ s).isSome = true) : d2_ s = ⟨s, true, emT ((dy_ s).getD S0), emF ((dy_ s).getD S0)⟩ := by
 unfold d2_; rw [h]
 cases hx : dy_ s with
 | none => rw [hx] at h2; cases h2
 | some x => rfl
theorem am5_ {s : Sl} (h : sok s = true) : (emF s).length = (bw (bof s)).length := by
 have q := gy_ (do_ h)
 unfold emF; rw [if_pos h, ← so_ (do_ h), f8_]
 rw [← q.2, List.length_map]
theorem emFL {s : Sl} (h : sok s = true) : (emF s).length < 1000000 := by rw [am5_ h]; have := (px_ (hg_ (do_ h))).1; omega
theorem re_ (s : Str) : (!tOk s || decide (((spl s).length : Int) > 1)) = !fe_ s := by
 unfold fe_; rw [q5_, Bool.not_and, Bool.not_not]; congr 1; exact decide_eq_decide.2 (by omega)
theorem mh_ (s : Str) (hs : s.length ≤ 281474976710656) : ACall En 42 [.s s] [] [.ag (pgC (d2_ s))] [] := by
 have X1 := wa_ s
 have X2 := @vp_ s
 have P1 := @y1_ s
 have P2 := @uo_ s
 have P3 := @yx_ s
 have R := wj_ s hs
 generalize (dy_ s).getD S0 = x at *
 generalize (dy_ s).isSome = ok at *
 refine al_ (fn := Tryz.f42) [] Tryz.func42 rfl rfl (by simp) fun C => ?_
 rw [av_]
 simp only [Tryz.ntmps42, T7_, List.length_nil, Nat.reduceAdd, Nat.reduceSub, List.replicate_succ, List.replicate_zero, List.cons_append, List.nil_append, bt_]
 refine .seq (.rgn [] (by simp only [go_sem, seval, aj_, ac_, ai_]; rfl) ?_ ?_)
 ·(first | trivial | (simp; done) | (simpa using h17) | exact ⟨by simpa using h17, rfl⟩)
 refine .seq (.seq (.rgn [a3_ (ok_ s hs)] (by simp only [go_sem, seval, aj_, ac_, ai_]; rfl) ?_ ?_))
 ·(first | trivial | (simp; done) | (simpa using h17) | exact ⟨by simpa using h17, rfl⟩)
 refine .condB (by simp only [go_sem, seval, aj_, ac_, ai_]; rfl) (by simp only [go_sem, seval, aj_, ac_, ai_]) (fun h9 => ?_) (fun h9 => ?_)
 ·refine .seq (.rgn [] (by simp only [go_sem, seval, aj_, ac_, ai_]; rfl) ?_ ?_)
  ·(first | trivial | (simp; done) | (simpa using h17) | exact ⟨by simpa using h17, rfl⟩)
  refine .ret ⟨.inr rfl, ?_⟩
  exact Out.plainL (by simp only [Tryz.results42]; rfl) (by simp only [ax_, a6_, go_sem, seval, aj_, ac_, ai_] <;> (split <;> rfl)) (by simp only [a4_, go_sem, seval, aj_, ac_, ai_] <;> (rw [P1 (by simpa using h9)]; simp [Pg0, les, leV, ler, inR])) (by simp only [go_sem, seval, aj_, ac_, ai_])
 ·refine .skip (.seq (.rgn [a3_ R] (by simp only [go_sem, seval, aj_, ac_, ai_]; rfl) ?_ ?_))
  ·(first | trivial | (simp; done) | (simpa using h17) | exact ⟨by simpa using h17, rfl⟩)
  refine .seq (.seq (.rgn [] (by simp only [go_sem, seval, aj_, ac_, ai_]; rfl) ?_ ?_))
  ·(first | trivial | (simp; done) | (simpa using h17) | exact ⟨by simpa using h17, rfl⟩)
  refine .condB (by simp only [go_sem, seval, aj_, ac_, ai_]; rfl) (by simp only [go_sem, seval, aj_, ac_, ai_]) (fun h17 => ?_) (fun h17 => ?_)
  ·refine .seq (.rgn [] (by simp only [go_sem, seval, aj_, ac_, ai_]; rfl) ?_ ?_)
   ·(first | trivial | (simp; done) | (simpa using h17) | exact ⟨by simpa using h17, rfl⟩)
   refine .ret ⟨.inr rfl, ?_⟩
   exact Out.plainL (by simp only [Tryz.results42]; rfl) (by simp only [ax_, a6_, go_sem, seval, aj_, ac_, ai_] <;> (split <;> rfl)) (by simp only [a4_, go_sem, seval, aj_, ac_, ai_] <;> (rw [P2 (by simpa using h9) (by simpa using h17)]; simp [les, leV, ler, inR])) (by simp only [go_sem, seval, aj_, ac_, ai_])
  ·refine .skip (.seq (.rgn [cm_ (ok = true) (fun h => aj5_ x (X2 h) X1)] (by simp only [go_sem, seval, aj_, ac_, ai_]; rfl) ?_ ?_))
   ·(first | trivial | (simp; done) | (simpa using h17) | exact ⟨by simpa using h17, rfl⟩)
   refine .seq (.rgn [cm_ (ok = true) (fun h => acr_ (emF x) (by have := emFL (X2 h); omega))] (by simp only [go_sem, seval, aj_, ac_, ai_]; rfl) ?_ ?_)
   ·(first | trivial | (simp; done) | (simpa using h17) | exact ⟨by simpa using h17, rfl⟩)
   refine .ret ⟨.inr rfl, ?_⟩
   exact Out.plainL (by simp only [Tryz.results42]; rfl) (by simp only [ax_, a6_, go_sem, seval, aj_, ac_, ai_] <;> (split <;> rfl)) (by simp only [a4_, go_sem, seval, aj_, ac_, ai_] <;> (rw [P3 (by simpa using h9) (by simpa using h17)]; simp [les, leV, ler, a8_])) (by simp only [go_sem, seval, aj_, ac_, ai_])
theorem j9_ (s : Str) (hs : s.length ≤ 281474976710656) : ACall En 44 [.s s] [] [.ag (pgC (d2_ s))] [] := by
 have X1 := wa_ s
 have X2 := @vp_ s
 have P1 := @y1_ s
 have P2 := @uo_ s
 have P3 := @yx_ s
 have R := u6_ s hs
 have hn := q5_ s
 have hI : fe_ s = (tOk s && !op_ s) := rfl
 generalize (dy_ s).getD S0 = x at *
 generalize (dy_ s).isSome = ok at *
 refine al_ (fn := Tryz.f44) [] Tryz.func44 rfl rfl (by simp) fun C => ?_
 rw [av_]
 simp only [Tryz.ntmps44, T7_, List.length_nil, Nat.reduceAdd, Nat.reduceSub, List.replicate_succ, List.replicate_zero, List.cons_append, List.nil_append, bt_]
 refine .seq (.rgn [] (by simp only [go_sem, seval, aj_, ac_, ai_, ab_, aa_]; rfl) ?_ ?_)
 ·first | trivial | simp
 refine .seq (.seq (.rgn [a3_ (j4_ s hs), cm_ (tOk s = true) (fun h => k5_ s (j5_ h))] (by simp only [go_sem, seval, aj_, ac_, ai_, ab_, aa_]; rfl) ?_ ?_))
 ·first | trivial | simp
 refine .condB (by simp only [go_sem, seval, aj_, ac_, ai_, ab_, aa_]; rfl) (by simp only [go_sem, seval, aj_, ac_, ai_, ab_, aa_]) (fun h15 => ?_) (fun h15 => ?_)
 ·refine .seq (.rgn [] (by simp only [go_sem, seval, aj_, ac_, ai_, ab_, aa_]; rfl) ?_ ?_)
  ·first | trivial | simp
  refine .ret ⟨.inr rfl, ?_⟩
  exact Out.plainL (by simp only [Tryz.results44]; rfl) (by simp only [ax_, a6_, go_sem, seval, aj_, ac_, ai_, ab_, aa_] <;> (split <;> rfl)) (by simp only [a4_, go_sem, seval, aj_, ac_, ai_, ab_, aa_] <;> (rw [re_] at h15; rw [P1 (by simpa using h15)]; simp [Pg0, les, leV, ler, inR])) (by simp only [go_sem, seval, aj_, ac_, ai_, ab_, aa_])
 ·refine .skip (.seq (.rgn [a3_ R] (by simp only [go_sem, seval, aj_, ac_, ai_, ab_, aa_]; rfl) ?_ ?_))
  ·first | trivial | simp
  refine .seq (.seq (.rgn [] (by simp only [go_sem, seval, aj_, ac_, ai_, ab_, aa_]; rfl) ?_ ?_))
  ·first | trivial | simp
  refine .condB (by simp only [go_sem, seval, aj_, ac_, ai_, ab_, aa_]; rfl) (by simp only [go_sem, seval, aj_, ac_, ai_, ab_, aa_]) (fun h23 => ?_) (fun h23 => ?_)
  ·refine .seq (.rgn [] (by simp only [go_sem, seval, aj_, ac_, ai_, ab_, aa_]; rfl) ?_ ?_)
   ·first | trivial | simp
   refine .ret ⟨.inr rfl, ?_⟩
   exact Out.plainL (by simp only [Tryz.results44]; rfl) (by simp only [ax_, a6_, go_sem, seval, aj_, ac_, ai_, ab_, aa_] <;> (split <;> rfl)) (by simp only [a4_, go_sem, seval, aj_, ac_, ai_, ab_, aa_] <;> (rw [re_] at h15; rw [P2 (by simpa using h15) (by simpa using h23)]; simp [les, leV, ler, inR])) (by simp only [go_sem, seval, aj_, ac_, ai_, ab_, aa_])
  ·refine .skip (.seq (.rgn [a3_ (ui_ x X1)] (by simp only [go_sem, seval, aj_, ac_, ai_, ab_, aa_]; rfl) ?_ ?_))
   ·first | trivial | simp
   refine .seq (.rgn [] (by simp only [go_sem, seval, aj_, ac_, ai_, ab_, aa_]; rfl) ?_ ?_)
   ·first | trivial | simp
   refine .ret ⟨.inr rfl, ?_⟩
   exact Out.plainL (by simp only [Tryz.results44]; rfl) (by simp only [ax_, a6_, go_sem, seval, aj_, ac_, ai_, ab_, aa_] <;> (split <;> rfl)) (by simp only [a4_, go_sem, seval, aj_, ac_, ai_, ab_, aa_] <;> (rw [re_] at h15; rw [P3 (by simpa using h15) (by simpa using h23)]; simp [les, leV, ler, a8_])) (by simp only [go_sem, seval, aj_, ac_, ai_, ab_, aa_])
theorem c8_ {a b : Pg} (h : (((!(a.line == b.line) || !(a.good == b.good)) || !(a.text == b.text)) || ((a.frm.length : Int) != (b.frm.length : Int))) = false) : a.line = b.line ∧ a.good = b.good ∧ a.text = b.text ∧ a.frm.length = b.frm.length := by
 simp only [Bool.or_eq_false_iff, Bool.not_eq_false', beq_iff_eq, bne_eq_false_iff_eq] at h
 exact ⟨h.1.1.1, h.1.1.2, h.1.2, by omega⟩
theorem akk_ {a b : Pg} (h : a.line = b.line ∧ a.good = b.good ∧ a.text = b.text ∧ a.frm.length = b.frm.length) {j : Nat} (hj : a.frm.length ≤ j) (hf : a.frm.take j = b.frm.take j) : a = b := by
 obtain ⟨l, g, t, f⟩ := a
 obtain ⟨l', g', t', f'⟩ := b
 obtain ⟨rfl, rfl, rfl, hl⟩ := h
 dsimp only at hl hj hf
 rw [T1_ hj, T1_ (by omega)] at hf
 rw [hf]
theorem cx_ {α β : Type} {a : List α} {b : List β} (h : ((a.length : Int) != (b.length : Int)) = false) : a.length = b.length := by
 rw [bne_eq_false_iff_eq] at h; omega
theorem adp_ (a b : List Pg) (ha : a.length ≤ 1000000) (hb : b.length ≤ 1000000) (hA : ∀ p ∈ a, p.frm.length ≤ 4000000) : ACall En 15 [.sl false (pgR a), .sl false (pgR b)] [] [.b (decide (a = b))] [] := by
 refine al_ (fn := Tryz.f15) [] Tryz.func15 rfl rfl (by simp) fun C => ?_
 rw [av_]
 simp only [Tryz.ntmps15, T7_, List.length_nil, Nat.reduceAdd, Nat.reduceSub, List.replicate_succ, List.replicate_zero, List.cons_append, List.nil_append, bt_]
 refine .seq (.rgn [] (by simp only [go_sem, seval, af_, ad_, an_, ac_, ai_]; rfl) ?_ ?_)
 ·(first | trivial | (simp; done) | (have q := cx_ h11; simp only [T3_] at h15; and_intros <;> first | omega | exact fun h => ⟨h, by omega, by omega⟩ | exact fun h => by rw [h]; rfl) | (have q := cx_ h11; have q2 := (c8_ h69).2.2.2; simp only [T3_] at h15 h77; and_intros <;> omega))
 refine .seq (.seq (.rgn [] (by simp only [go_sem, seval, af_, ad_, an_, ac_, ai_]; rfl) ?_ ?_))
 ·(first | trivial | (simp; done) | (have q := cx_ h11; simp only [T3_] at h15; and_intros <;> first | omega | exact fun h => ⟨h, by omega, by omega⟩ | exact fun h => by rw [h]; rfl) | (have q := cx_ h11; have q2 := (c8_ h69).2.2.2; simp only [T3_] at h15 h77; and_intros <;> omega))
 refine .condB (by simp only [go_sem, seval, af_, ad_, an_, ac_, ai_]; rfl) (by simp only [go_sem, seval, af_, ad_, an_, ac_, ai_]) (fun h11 => ?_) (fun h11 => ?_)
 ·refine .seq (.rgn [] (by simp only [go_sem, seval, af_, ad_, an_, ac_, ai_]; rfl) ?_ ?_)
  ·(first | trivial | (simp; done) | (have q := cx_ h11; simp only [T3_] at h15; and_intros <;> first | omega | exact fun h => ⟨h, by omega, by omega⟩ | exact fun h => by rw [h]; rfl) | (have q := cx_ h11; have q2 := (c8_ h69).2.2.2; simp only [T3_] at h15 h77; and_intros <;> omega))
  refine .ret ⟨.inr rfl, ?_⟩
  exact Out.plain (by simp only [Tryz.results15]; rfl) (by simp only [ax_, a6_, go_sem, seval, af_, ad_, an_, ac_, ai_] <;> (split <;> rfl)) (by simp only [a4_, go_sem, seval, af_, ad_, an_, ac_, ai_] <;> (rw [decide_eq_false]; rintro rfl; simp at h11)) (by simp only [go_sem, seval, af_, ad_, an_, ac_, ai_])
 ·refine .skip (.seq (.seq (.rgn [] (by simp only [go_sem, seval, af_, ad_, an_, ac_, ai_]; rfl) ?_ ?_)))
  ·(first | trivial | (simp; done) | (have q := cx_ h11; simp only [T3_] at h15; and_intros <;> first | omega | exact fun h => ⟨h, by omega, by omega⟩ | exact fun h => by rw [h]; rfl) | (have q := cx_ h11; have q2 := (c8_ h69).2.2.2; simp only [T3_] at h15 h77; and_intros <;> omega))
  refine .block (.loopK (fun k : Nat => ⟨[.sl false (pgR a), .sl false (pgR b), .no, .no, .no, .i .i64 k, .no, .no, .no, .no, .no, .no, .no, .no, .no, .no, .no, .no, .no, .no, .no, .no, .no, .no, .no, .no, .no, .no, .no, .no, .no, .no, .no, .no, .no, .no, .no, .no, .no, .no, .no, .no, .no, .no, .no, .no, .no, .no, .no, .no, .no, .no, .no, .no, .no, .no, .no, .no, .no, .no, .no, .no, .no, .no, .no, .no, .no, .no, .no, .no, .no, .no, .no, .no, .no, .no, .no, .no, .no, .no, .no, .no, .no, .no, .no, .no, .no, .no, .no, .no, .no, .no, .no, .no, .no, .no, .no], be_ [], us []⟩) (fun k : Nat => k ≤ a.length ∧ a.take k = b.take k) (fun k : Nat => a.length - k) (0) ?_ ?_ (fun k hI => ?_))
  ·exact ⟨Nat.zero_le _, rfl⟩
  ·exact Can.weak (Weak.lit (by simp only [go_sem, seval, af_, ad_, an_, ac_, ai_, as_, leV, aq_, ar_, V.inn, us, T9_, Ta_] <;> ((try simp))) (by simp only [go_sem, seval, af_, ad_, an_, ac_, ai_, as_, leV, aq_, ar_, V.inn, us, T9_, Ta_]) (by simp only [go_sem, seval, af_, ad_, an_, ac_, ai_, as_, leV, aq_, ar_, V.inn, us, T9_, Ta_]))
  refine .seq (.seq (.rgn [] (by simp only [go_sem, seval, af_, ad_, an_, ac_, ai_]; rfl) ?_ ?_))
  ·(first | trivial | (simp; done) | (have q := cx_ h11; simp only [T3_] at h15; and_intros <;> first | omega | exact fun h => ⟨h, by omega, by omega⟩ | exact fun h => by rw [h]; rfl) | (have q := cx_ h11; have q2 := (c8_ h69).2.2.2; simp only [T3_] at h15 h77; and_intros <;> omega))
  refine .condB (by simp only [go_sem, seval, af_, ad_, an_, ac_, ai_]; rfl) (by simp only [go_sem, seval, af_, ad_, an_, ac_, ai_]) (fun h15 => ?_) (fun h15 => ?_)
  ·refine .skip (.seq (.block (.seq (.seq (.rgnD [] enM (by simp only [go_sem, seval, af_, ad_, an_, ac_, ai_, dq_ (show k < a.length by simpa using h15), dq_ (show k < b.length by have q := cx_ h11; simp only [T3_] at h15; omega)]; rfl) (by rfl) ?_ ?_)))))
   ·(first | trivial | (simp; done) | (have q := cx_ h11; simp only [T3_] at h15; and_intros <;> first | omega | exact fun h => ⟨h, by omega, by omega⟩ | exact fun h => by rw [h]; rfl) | (have q := cx_ h11; have q2 := (c8_ h69).2.2.2; simp only [T3_] at h15 h77; and_intros <;> omega))
   refine .condB (by simp only [go_sem, seval, af_, ad_, an_, ac_, ai_]; rfl) (by simp only [go_sem, seval, af_, ad_, an_, ac_, ai_]) (fun h69 => ?_) (fun h69 => ?_)
   ·refine .seq (.rgn [] (by simp only [go_sem, seval, af_, ad_, an_, ac_, ai_]; rfl) ?_ ?_)
    ·(first | trivial | (simp; done) | (have q := cx_ h11; simp only [T3_] at h15; and_intros <;> first | omega | exact fun h => ⟨h, by omega, by omega⟩ | exact fun h => by rw [h]; rfl) | (have q := cx_ h11; have q2 := (c8_ h69).2.2.2; simp only [T3_] at h15 h77; and_intros <;> omega))
    refine .ret ⟨.inr rfl, ?_⟩
    exact Out.plain (by simp only [Tryz.results15]; rfl) (by simp only [ax_, a6_, go_sem, seval, af_, ad_, an_, ac_, ai_] <;> (split <;> rfl)) (by simp only [a4_, go_sem, seval, af_, ad_, an_, ac_, ai_] <;> (rw [decide_eq_false]; rintro rfl; simp at h69)) (by simp only [go_sem, seval, af_, ad_, an_, ac_, ai_])
   ·refine .skip (.seq (.rgn [] (by simp only [go_sem, seval, af_, ad_, an_, ac_, ai_]; rfl) ?_ ?_))
    ·(first | trivial | (simp; done) | (have q := cx_ h11; simp only [T3_] at h15; and_intros <;> first | omega | exact fun h => ⟨h, by omega, by omega⟩ | exact fun h => by rw [h]; rfl) | (have q := cx_ h11; have q2 := (c8_ h69).2.2.2; simp only [T3_] at h15 h77; and_intros <;> omega))
    refine .block (.loopK (fun j : Nat => ⟨[.sl false (pgR a), .sl false (pgR b), .no, .no, .no, .i .i64 k, .i .i64 j, .no, .no, .no, .no, .no, .no, .no, .no, .no, .no, .no, .no, .no, .no, .no, .no, .no, .no, .no, .no, .no, .no, .no, .no, .no, .no, .no, .no, .no, .no, .no, .no, .no, .no, .no, .no, .no, .no, .no, .no, .no, .no, .no, .no, .no, .no, .no, .no, .no, .no, .no, .no, .no, .no, .no, .no, .no, .no, .no, .no, .no, .no, .no, .no, .no, .no, .no, .no, .no, .no, .no, .no, .no, .no, .no, .no, .no, .no, .no, .no, .no, .no, .no, .no, .no, .no, .no, .no, .no, .no], be_ [], us []⟩) (fun j : Nat => k ≤ a.length ∧ a.take k = b.take k ∧ j ≤ (a.getD k Pg0).frm.length ∧ (a.getD k Pg0).frm.take j = (b.getD k Pg0).frm.take j) (fun j : Nat => (a.getD k Pg0).frm.length - j) (0) ?_ ?_ (fun j hI => ?_))
    ·exact ⟨hI.1, hI.2, Nat.zero_le _, rfl⟩
    ·exact Can.weak (Weak.lit (by simp only [go_sem, seval, af_, ad_, an_, ac_, ai_, as_, leV, aq_, ar_, V.inn, us, T9_, Ta_] <;> ((try simp))) (by simp only [go_sem, seval, af_, ad_, an_, ac_, ai_, as_, leV, aq_, ar_, V.inn, us, T9_, Ta_]) (by simp only [go_sem, seval, af_, ad_, an_, ac_, ai_, as_, leV, aq_, ar_, V.inn, us, T9_, Ta_]))
    refine .seq (.seq (.rgn [] (by simp only [go_sem, seval, af_, ad_, an_, ac_, ai_, dq_ (show k < a.length by simpa using h15)]; rfl) ?_ ?_))
    ·(first | trivial | (simp; done) | (have q := cx_ h11; simp only [T3_] at h15; and_intros <;> first | omega | exact fun h => ⟨h, by omega, by omega⟩ | exact fun h => by rw [h]; rfl) | (have q := cx_ h11; have q2 := (c8_ h69).2.2.2; simp only [T3_] at h15 h77; and_intros <;> omega))
    refine .condB (by simp only [go_sem, seval, af_, ad_, an_, ac_, ai_]; rfl) (by simp only [go_sem, seval, af_, ad_, an_, ac_, ai_]) (fun h77 => ?_) (fun h77 => ?_)
    ·refine .skip (.seq (.block (.seq (.rgnD [] enM (by simp only [go_sem, seval, af_, ad_, an_, ac_, ai_, dq_ (show k < a.length by simpa using h15), dq_ (show k < b.length by have q := cx_ h11; simp only [T3_] at h15; omega), fy_ (show j < (a.getD k Pg0).frm.length by simpa using h77), fy_ (show j < (b.getD k Pg0).frm.length by have q := (c8_ h69).2.2.2; simp only [T3_] at h77; omega)]; rfl) (by rfl) ?_ ?_))))
     ·(first | trivial | (simp; done) | (have q := cx_ h11; simp only [T3_] at h15; and_intros <;> first | omega | exact fun h => ⟨h, by omega, by omega⟩ | exact fun h => by rw [h]; rfl) | (have q := cx_ h11; have q2 := (c8_ h69).2.2.2; simp only [T3_] at h15 h77; and_intros <;> omega))
     refine .condB (by simp only [go_sem, seval, af_, ad_, an_, ac_, ai_]; rfl) (by simp only [go_sem, seval, af_, ad_, an_, ac_, ai_]) (fun h96 => ?_) (fun h96 => ?_)
     ·refine .seq (.rgn [] (by simp only [go_sem, seval, af_, ad_, an_, ac_, ai_]; rfl) ?_ ?_)
      ·(first | trivial | (simp; done) | (have q := cx_ h11; simp only [T3_] at h15; and_intros <;> first | omega | exact fun h => ⟨h, by omega, by omega⟩ | exact fun h => by rw [h]; rfl) | (have q := cx_ h11; have q2 := (c8_ h69).2.2.2; simp only [T3_] at h15 h77; and_intros <;> omega))
      refine .ret ⟨.inr rfl, ?_⟩
      exact Out.plain (by simp only [Tryz.results15]; rfl) (by simp only [ax_, a6_, go_sem, seval, af_, ad_, an_, ac_, ai_] <;> (split <;> rfl)) (by simp only [a4_, go_sem, seval, af_, ad_, an_, ac_, ai_] <;> (rw [decide_eq_false]; rintro rfl; simp at h96)) (by simp only [go_sem, seval, af_, ad_, an_, ac_, ai_])
     ·refine .skip (.rgn [] (by simp only [go_sem, seval, af_, ad_, an_, ac_, ai_]; rfl) ?_ ?_)
      ·(first | trivial | (simp; done) | (have q := cx_ h11; simp only [T3_] at h15; and_intros <;> first | omega | exact fun h => ⟨h, by omega, by omega⟩ | exact fun h => by rw [h]; rfl) | (have q := cx_ h11; have q2 := (c8_ h69).2.2.2; simp only [T3_] at h15 h77; and_intros <;> omega))
      refine Exists.intro (j + 1) ⟨?_, ?_, ?_⟩
      ·have q2 := (c8_ h69).2.2.2; simp only [T3_] at h77; exact ⟨hI.1, hI.2.1, by omega, lp_ (d := 0) (by omega) (by omega) hI.2.2.2 (bne_eq_false_iff_eq.1 h96)⟩
      ·simp only [T3_] at h77; omega
      exact Can.weak (Weak.lit (by simp only [go_sem, seval, af_, ad_, an_, ac_, ai_, as_, leV, aq_, ar_, V.inn, us, T9_, Ta_] <;> (simp only [T3_] at h77 h15; have := hA _ (bp_ (d := Pg0) (show k < a.length by omega)); exact bd_ (n := ((j + 1 : Nat) : Int)) (by omega) (by omega))) (by simp only [go_sem, seval, af_, ad_, an_, ac_, ai_, as_, leV, aq_, ar_, V.inn, us, T9_, Ta_]) (by simp only [go_sem, seval, af_, ad_, an_, ac_, ai_, as_, leV, aq_, ar_, V.inn, us, T9_, Ta_]))
    ·refine .exit (.rgn [] (by simp only [go_sem, seval, af_, ad_, an_, ac_, ai_]; rfl) ?_ ?_)
     ·(first | trivial | (simp; done) | (have q := cx_ h11; simp only [T3_] at h15; and_intros <;> first | omega | exact fun h => ⟨h, by omega, by omega⟩ | exact fun h => by rw [h]; rfl) | (have q := cx_ h11; have q2 := (c8_ h69).2.2.2; simp only [T3_] at h15 h77; and_intros <;> omega))
     refine Exists.intro (k + 1) ⟨?_, ?_, ?_⟩
     ·have q := cx_ h11; simp only [T3_] at h15; simp only [T4_] at h77; exact ⟨by omega, lp_ (d := Pg0) (by omega) (by omega) hI.2.1 (akk_ (c8_ h69) (by omega) hI.2.2.2)⟩
     ·simp only [T3_] at h15; omega
     exact Can.weak (Weak.lit (by simp only [go_sem, seval, af_, ad_, an_, ac_, ai_, as_, leV, aq_, ar_, V.inn, us, T9_, Ta_] <;> (simp only [T3_] at h15; exact bd_ (n := ((k + 1 : Nat) : Int)) (by omega) (by omega))) (by simp only [go_sem, seval, af_, ad_, an_, ac_, ai_, as_, leV, aq_, ar_, V.inn, us, T9_, Ta_]) (by simp only [go_sem, seval, af_, ad_, an_, ac_, ai_, as_, leV, aq_, ar_, V.inn, us, T9_, Ta_]))
  ·refine .exit (.seq (.rgn [] (by simp only [go_sem, seval, af_, ad_, an_, ac_, ai_]; rfl) ?_ ?_))
   ·(first | trivial | (simp; done) | (have q := cx_ h11; simp only [T3_] at h15; and_intros <;> first | omega | exact fun h => ⟨h, by omega, by omega⟩ | exact fun h => by rw [h]; rfl) | (have q := cx_ h11; have q2 := (c8_ h69).2.2.2; simp only [T3_] at h15 h77; and_intros <;> omega))
   refine .ret ⟨.inr rfl, ?_⟩
   exact Out.plain (by simp only [Tryz.results15]; rfl) (by simp only [ax_, a6_, go_sem, seval, af_, ad_, an_, ac_, ai_] <;> (split <;> rfl)) (by simp only [a4_, go_sem, seval, af_, ad_, an_, ac_, ai_] <;> (have q := cx_ h11; simp only [T4_] at h15; have e := hI.2; rw [T1_ (by omega), T1_ (by omega)] at e; rw [decide_eq_true e])) (by simp only [go_sem, seval, af_, ad_, an_, ac_, ai_])
end
end Go.Proofs.YtpikbndepapbhaaGreatDoor
