/- What the library's functions answer: strings.Contains for a newline. Conditions: none. -/
import Derived.Test.YtpikbndepapbhaaGreatDoorKw
import Derived.Lib.IndexAny
import Derived.Test.YtpikbndepapbhaaGreatDoorK7
import Derived.Test.YtpikbndepapbhaaGreatDoorKq
import Derived.Test.YtpikbndepapbhaaGreatDoorKh
import Derived.Test.YtpikbndepapbhaaGreatDoorK8
import Derived.Test.YtpikbndepapbhaaGreatDoorK6
import Derived.Test.YtpikbndepapbhaaGreatDoorKo
set_option linter.unusedVariables false
set_option linter.unusedSimpArgs false
namespace Go.Proofs.YtpikbndepapbhaaGreatDoor
section
open Go.RowKit
set_option maxRecDepth 100000
def ni_ (s : Str) : Bool := s.contains 10
theorem akm_ (s : Str) : ACall En 85 [.s s, .s [10]] [] [.b (ni_ s)] [] := by
 refine h4_ (fn := Tryz.f85) Tryz.func85 rfl rfl fun S w xs hx _ _ => ?_
 simp only [VRs, VR] at hx
 obtain ⟨x, r, e1, rfl, y, q, e2, rfl, rfl⟩ := hx
 subst e2
 obtain rfl : xs = #[.string ⟨s.toArray⟩, .string ⟨[10].toArray⟩] := by apply Array.ext'; simpa using e1
 refine (Tryz.strings_Contains_one ⟨s.toArray⟩ 10 w).mono ?_
 rintro e w' ⟨rfl, rfl⟩
 refine ⟨[_], rfl, Below.refl _ _, .cons ?_ .nil⟩
 simp only [VR, ni_]
 rw [Lib.contains_iff_indexByte]
end
section
set_option maxRecDepth 100000
set_option maxHeartbeats 4000000
theorem abh_ : ACall En 104 [.sl false []] [] [.ow 0 1 0 0] [⟨3, 1, []⟩] := by
 refine al_ (fn := Tryz.f104) [17] Tryz.func104 rfl rfl (by simp) fun C => ?_
 rw [aw_]
 simp only [Tryz.ntmps104, T7_, List.length_nil, Nat.reduceAdd, Nat.reduceSub, List.replicate_succ, List.replicate_zero, List.cons_append, List.nil_append, bo_]
 refine .seq (.rgn [] (by simp only [go_sem, seval]; rfl) ?_ ?_)
 ·first | trivial | simp
 refine .seq (.seq (.rgnS [4] [nilO En] (by simp only [go_sem, seval]; rfl) ?_ ?_))
 ·first | trivial | simp
 refine .condQ (by simp only [go_sem, seval] <;> rfl) (by simp only [go_sem, seval]) ?_ ?_
 ·refine .seq (.rgn [] (by simp only [go_sem, seval]; rfl) ?_ ?_)
  ·first | trivial | simp
  refine .can (Can.ownSlot 2 17 3 1 (by simp only [go_sem, seval] <;> rfl) (by simp only [go_sem, seval]) (by simp only [go_sem, seval] <;> rfl)) ?_
  refine .ret ⟨.inr rfl, ?_⟩
  exact Out.mem' (by simp only [Tryz.results104]; rfl) (by simp only [ay_, a6_, go_sem, seval]) (by simp only [a5_, rns, rn, go_sem, seval] <;> (simp)) (by simp) rfl (by decide) (by simp only [go_sem, seval]) (by simp only [ak_, go_sem, seval]) (by simp only [ag_, go_sem, seval] <;> (simp))
 ·refine .skip (.seq (.rgn [] (by simp only [go_sem, seval]; rfl) ?_ ?_))
  ·first | trivial | simp
  refine .ret ⟨.inr rfl, ?_⟩
  exact Out.mem' (by simp only [Tryz.results104]; rfl) (by simp only [ay_, a6_, go_sem, seval]) (by simp only [a5_, rns, rn, go_sem, seval] <;> (simp)) (by simp) rfl (by decide) (by simp only [go_sem, seval]) (by simp only [ak_, go_sem, seval]) (by simp only [ag_, go_sem, seval] <;> (simp))
theorem acb_ (e : Int) (r : List Int) (hl : r.length < 1099511627776) : ACall En 104 [.sl false (inR (e :: r))] [] [.ow 0 1 0 (r.length + 1)] [⟨3, 1, inR (e :: r)⟩] := by
 refine al_ (fn := Tryz.f104) [17] Tryz.func104 rfl rfl (by simp) fun C => ?_
 rw [aw_]
 simp only [Tryz.ntmps104, T7_, List.length_nil, Nat.reduceAdd, Nat.reduceSub, List.replicate_succ, List.replicate_zero, List.cons_append, List.nil_append, bo_]
 refine .seq (.rgn [] (by simp only [go_sem, seval, ac_, ah_, au_, b6_, ci_, V.pure]; rfl) ?_ ?_)
 ·first | trivial | simp
 refine .seq (.seq (.rgnS [4] [nilO En] (by simp only [go_sem, seval, ac_, ah_, au_, b6_, ci_, V.pure]; rfl) ?_ ?_))
 ·first | trivial | simp
 refine .condB (by simp only [go_sem, seval, ac_, ah_, au_, b6_, ci_, V.pure]; rfl) (by simp only [go_sem, seval, ac_, ah_, au_, b6_, ci_, V.pure]) (fun h4 => ?_) (fun h4 => ?_)
 ·exact absurd h4 (by simp)
 ·refine .skip (.seq (.rgn [] (by simp only [go_sem, seval, ac_, ah_, au_, b6_, ci_, V.pure]; rfl) ?_ ?_))
  ·have := ah_ r; simp [au_, v1_]; omega
  refine .ret ⟨.inr rfl, ?_⟩
  exact Out.mem' (by simp only [Tryz.results104]; rfl) (by simp only [ay_, a6_, go_sem, seval, ac_, ah_, au_, b6_, ci_, V.pure]) (by simp only [a5_, rns, rn, go_sem, seval, ac_, ah_, au_, b6_, ci_, V.pure] <;> (simp [ah_])) (by simp) rfl (by decide) (by simp only [go_sem, seval, ac_, ah_, au_, b6_, ci_, V.pure]) (by simp only [ak_, go_sem, seval, ac_, ah_, au_, b6_, ci_, V.pure]) (by simp only [ag_, go_sem, seval, ac_, ah_, au_, b6_, ci_, V.pure] <;> (simp [au_, cb_, ac_]))
theorem ags_ (l : List Int) (hl : l.length < 1099511627776) : ACall En 104 [.sl false (inR l)] [] [.ow 0 1 0 l.length] [⟨3, 1, inR l⟩] := by
 cases l with
 | nil => simp only [inR]; exact abh_
 | cons e r => exact acb_ e r (by simp at hl; omega)
theorem aac_ (l : List Int) (hl : l.length < 1099511627776) : ACall En 48 [.ow 0 1 0 l.length] [⟨3, 1, inR l⟩] [.ow 0 1 0 l.length] [⟨3, 1, inR l⟩] := by
 refine al_ (fn := Tryz.f48) [0] Tryz.func48 rfl rfl (by simp) fun C => ?_
 rw [aw_]
 simp only [Tryz.ntmps48, T7_, List.length_nil, Nat.reduceAdd, Nat.reduceSub, List.replicate_succ, List.replicate_zero, List.cons_append, List.nil_append, bo_]
 refine .seq (.rgn [] (by simp only [go_sem, seval, ac_, ah_]; rfl) ?_ ?_)
 ·first | trivial | simp
 refine .seq (.rgn [] (by simp only [go_sem, seval, ac_, ah_]; rfl) ?_ ?_)
 ·first | trivial | simp
 refine .ret ⟨.inr rfl, ?_⟩
 exact Out.mem' (by simp only [Tryz.results48]; rfl) (by simp only [ay_, a6_, go_sem, seval, ac_, ah_]) (by simp only [a5_, rns, rn, go_sem, seval, ac_, ah_] <;> (simp)) (by simp) rfl (by decide) (by simp only [go_sem, seval, ac_, ah_]) (by simp only [ak_, go_sem, seval, ac_, ah_]) (by simp only [ag_, go_sem, seval, ac_, ah_] <;> (simp [cb_, ac_]))
theorem u6_ (l : List Int) (hl : l.length < 1099511627776) : ACall En 75 [.sl false (inR l)] [] [.ow 0 1 0 l.length] [⟨3, 1, inR l⟩] := by
 refine al_ (fn := Tryz.f75) [14] Tryz.func75 rfl rfl (by simp) fun C => ?_
 rw [aw_]
 simp only [Tryz.ntmps75, T7_, List.length_nil, Nat.reduceAdd, Nat.reduceSub, List.replicate_succ, List.replicate_zero, List.cons_append, List.nil_append, bo_]
 refine .seq (.rgn [] (by simp only [go_sem, seval, ac_, ah_, ag_, ak_, cb_]; rfl) ?_ ?_)
 ·(first | trivial | (simp; done) | (simp [cb_, ac_, a9_]; done))
 refine .seq (.rgn [bs_ [] [14] (ags_ l hl), bs_ [14] [] (aac_ l hl)] (by simp only [go_sem, seval, ac_, ah_, ag_, ak_, cb_]; rfl) ?_ ?_)
 ·(first | trivial | (simp; done) | (simp [cb_, ac_, a9_]; done))
 refine .ret ⟨.inr rfl, ?_⟩
 exact Out.mem' (by simp only [Tryz.results75]; rfl) (by simp only [ay_, a6_, go_sem, seval, ac_, ah_, ag_, ak_, cb_]) (by simp only [a5_, rns, rn, go_sem, seval, ac_, ah_, ag_, ak_, cb_] <;> (simp)) (by simp) rfl (by decide) (by simp only [go_sem, seval, ac_, ah_, ag_, ak_, cb_]) (by simp only [ak_, go_sem, seval, ac_, ah_, ag_, ak_, cb_]) (by simp only [ag_, go_sem, seval, ac_, ah_, ag_, ak_, cb_] <;> (simp [cb_, ac_]))
theorem afg_ (l : List Int) (hl : l.length < 1099511627776) : ACall En 75 [.sl false (inR l)] [] [.sl false (inR l)] [] :=
 (u6_ l hl).frz1 (by simp [fw_, frz, ah_, T1_])
structure Pg where
 line : Str
 good : Bool
 text : Str
 frm : List Int
deriving DecidableEq
def Pg0 : Pg := ⟨[], false, [], []⟩
def pgC (p : Pg) : List V := [.s p.line, .b p.good, .s p.text, .sl false (inR p.frm)]
def pgR (l : List Pg) : List (List V) := l.map pgC
theorem ae_ (l : List Pg) : (pgR l).length = l.length := by simp [pgR]
theorem ad_ : ∀ l : List Pg, b6_ (pgR l) = true
 | [] => rfl
 | p :: l => by
  show b6_ (pgC p :: pgR l) = true
  simp only [b6_, pgC, ci_, V.pure, ac_, ad_ l, Bool.and_true]
theorem p4_ (p : Pg) : ci_ (pgC p) = true := by simp only [pgC, ci_, V.pure, ac_, Bool.and_true]
theorem de_ {l : List Pg} {k : Nat} (h : k < l.length) : (pgR l).getD k [] = pgC (l.getD k Pg0) := by
 simp [pgR, T8_, T6_ h]
theorem aj_ (p : Pg) : pgC p = [.s p.line, .b p.good, .s p.text, .sl false (inR p.frm)] := rfl
def f3_ (s : Str) : Bool := tOk s && !ni_ s
theorem r5_ (s : Str) : ni_ s = decide (1 < (spl s).length) := by
 unfold ni_
 by_cases h : (10 : UInt8) ∈ s
 ·obtain ⟨a, b, rfl, ha⟩ := List.eq_append_cons_of_mem h
  rw [s2_ ha]
  have := List.length_pos_iff.2 (al5_ b)
  simp; omega
 ·rw [p2_ h]; simpa using h
def ec_ (s : Str) : Pg := if f3_ s then (match c6_ s with | none => ⟨s, false, [], []⟩ | some x => ⟨s, true, emT x, emF x⟩) else Pg0
theorem o9_ (s : Str) (hs : s.length ≤ 281474976710656) : ACall En 54 [.s s] [] [.b (f3_ s)] [] := by
 refine al_ (fn := Tryz.f54) [] Tryz.func54 rfl rfl (by simp) fun C => ?_
 rw [aw_]
 simp only [Tryz.ntmps54, T7_, List.length_nil, Nat.reduceAdd, Nat.reduceSub, List.replicate_succ, List.replicate_zero, List.cons_append, List.nil_append, bo_]
 refine .seq (.rgn [] (by simp only [go_sem, seval]; rfl) ?_ ?_)
 ·first | trivial | simp
 refine .seq (.rgn [a4_ (acs_ s hs), a4_ (akm_ s)] (by simp only [go_sem, seval]; rfl) ?_ ?_)
 ·first | trivial | simp
 refine .ret ⟨.inr rfl, ?_⟩
 exact Out.plain (by simp only [Tryz.results54]; rfl) (by simp only [ay_, a6_, go_sem, seval] <;> (split <;> rfl)) (by simp only [a5_, go_sem, seval] <;> (rfl)) (by simp only [go_sem, seval])
end
section
set_option maxRecDepth 100000
set_option maxHeartbeats 4000000
theorem vw_ (s : Str) : e1_ ((c6_ s).getD S0) = true := by
 cases h : c6_ s with
 | none => decide
 | some x =>
  by_cases hc : (bv_ s).isSome = true ∧ sok (rdS (da_ s)) = true ∧ ei_ (rdS (da_ s)) = s
  ·rw [qt_ hc.1 hc.2.1 hc.2.2] at h
   cases h; exact agt_ (ty_ s).1
  ·rw [o2_ hc] at h; cases h
theorem v9_ {s : Str} (h : (c6_ s).isSome = true) : sok ((c6_ s).getD S0) = true := by
 cases hx : c6_ s with
 | none => rw [hx] at h; cases h
 | some x => exact (j4_.1 hx).1
theorem zf_ {s : Str} (h : f3_ s = false) : ec_ s = Pg0 := by unfold ec_; rw [h]; rfl
theorem qr_ {s : Str} (h : f3_ s = true) (h2 : (c6_ s).isSome = false) : ec_ s = ⟨s, false, [], []⟩ := by
 unfold ec_; rw [h]
 cases hx : c6_ s with
 | none => rfl
 | some x => rw [hx] at h2; cases h2
theorem tl_ {s : Str} (h : f3_ s = true) (h2 : (c6_ s).isSome = true) : ec_ s = ⟨s, true, emT ((c6_ s).getD S0), emF ((c6_ s).getD S0)⟩ := by
 unfold ec_; rw [h]
 cases hx : c6_ s with
 | none => rw [hx] at h2; cases h2
 | some x => rfl
theorem aom_ {s : Sl} (h : sok s = true) : (emF s).length = (bw (bof s)).length := by
 have q := g1_ (dn_ h)
 unfold emF; rw [if_pos h, ← tt_ (dn_ h), f9_]
 rw [← q.2, List.length_map]
theorem emFL {s : Sl} (h : sok s = true) : (emF s).length < 1000000 := by rw [aom_ h]; have := (p7_ (hj_ (dn_ h))).1; omega
theorem uv_ (s : Str) : (!tOk s || decide (((spl s).length : Int) > 1)) = !f3_ s := by
 unfold f3_; rw [r5_, Bool.not_and, Bool.not_not]; congr 1; exact decide_eq_decide.2 (by omega)
theorem ra_ (s : Str) (hs : s.length ≤ 281474976710656) : ACall En 42 [.s s] [] [.ag (pgC (ec_ s))] [] := by
 have X1 := vw_ s
 have X2 := @v9_ s
 have P1 := @zf_ s
 have P2 := @qr_ s
 have P3 := @tl_ s
 have R := us_ s hs
 generalize (c6_ s).getD S0 = x at *
 generalize (c6_ s).isSome = ok at *
 refine al_ (fn := Tryz.f42) [] Tryz.func42 rfl rfl (by simp) fun C => ?_
 rw [aw_]
 simp only [Tryz.ntmps42, T7_, List.length_nil, Nat.reduceAdd, Nat.reduceSub, List.replicate_succ, List.replicate_zero, List.cons_append, List.nil_append, bo_]
 refine .seq (.rgn [] (by simp only [go_sem, seval, am_, ac_, aj_]; rfl) ?_ ?_)
 ·(first | trivial | (simp; done) | (simpa using h17) | exact ⟨by simpa using h17, rfl⟩)
 refine .seq (.seq (.rgn [a4_ (o9_ s hs)] (by simp only [go_sem, seval, am_, ac_, aj_]; rfl) ?_ ?_))
 ·(first | trivial | (simp; done) | (simpa using h17) | exact ⟨by simpa using h17, rfl⟩)
 refine .condB (by simp only [go_sem, seval, am_, ac_, aj_]; rfl) (by simp only [go_sem, seval, am_, ac_, aj_]) (fun h9 => ?_) (fun h9 => ?_)
 ·refine .seq (.rgn [] (by simp only [go_sem, seval, am_, ac_, aj_]; rfl) ?_ ?_)
  ·(first | trivial | (simp; done) | (simpa using h17) | exact ⟨by simpa using h17, rfl⟩)
  refine .ret ⟨.inr rfl, ?_⟩
  exact Out.plainL (by simp only [Tryz.results42]; rfl) (by simp only [ay_, a6_, go_sem, seval, am_, ac_, aj_] <;> (split <;> rfl)) (by simp only [a5_, go_sem, seval, am_, ac_, aj_] <;> (rw [P1 (by simpa using h9)]; simp [Pg0, les, leV, ler, inR])) (by simp only [go_sem, seval, am_, ac_, aj_])
 ·refine .skip (.seq (.rgn [a4_ R] (by simp only [go_sem, seval, am_, ac_, aj_]; rfl) ?_ ?_))
  ·(first | trivial | (simp; done) | (simpa using h17) | exact ⟨by simpa using h17, rfl⟩)
  refine .seq (.seq (.rgn [] (by simp only [go_sem, seval, am_, ac_, aj_]; rfl) ?_ ?_))
  ·(first | trivial | (simp; done) | (simpa using h17) | exact ⟨by simpa using h17, rfl⟩)
  refine .condB (by simp only [go_sem, seval, am_, ac_, aj_]; rfl) (by simp only [go_sem, seval, am_, ac_, aj_]) (fun h17 => ?_) (fun h17 => ?_)
  ·refine .seq (.rgn [] (by simp only [go_sem, seval, am_, ac_, aj_]; rfl) ?_ ?_)
   ·(first | trivial | (simp; done) | (simpa using h17) | exact ⟨by simpa using h17, rfl⟩)
   refine .ret ⟨.inr rfl, ?_⟩
   exact Out.plainL (by simp only [Tryz.results42]; rfl) (by simp only [ay_, a6_, go_sem, seval, am_, ac_, aj_] <;> (split <;> rfl)) (by simp only [a5_, go_sem, seval, am_, ac_, aj_] <;> (rw [P2 (by simpa using h9) (by simpa using h17)]; simp [les, leV, ler, inR])) (by simp only [go_sem, seval, am_, ac_, aj_])
  ·refine .skip (.seq (.rgn [cl_ (ok = true) (fun h => am0_ x (X2 h) X1)] (by simp only [go_sem, seval, am_, ac_, aj_]; rfl) ?_ ?_))
   ·(first | trivial | (simp; done) | (simpa using h17) | exact ⟨by simpa using h17, rfl⟩)
   refine .seq (.rgn [cl_ (ok = true) (fun h => afg_ (emF x) (by have := emFL (X2 h); omega))] (by simp only [go_sem, seval, am_, ac_, aj_]; rfl) ?_ ?_)
   ·(first | trivial | (simp; done) | (simpa using h17) | exact ⟨by simpa using h17, rfl⟩)
   refine .ret ⟨.inr rfl, ?_⟩
   exact Out.plainL (by simp only [Tryz.results42]; rfl) (by simp only [ay_, a6_, go_sem, seval, am_, ac_, aj_] <;> (split <;> rfl)) (by simp only [a5_, go_sem, seval, am_, ac_, aj_] <;> (rw [P3 (by simpa using h9) (by simpa using h17)]; simp [les, leV, ler, a9_])) (by simp only [go_sem, seval, am_, ac_, aj_])
theorem sc_ (s : Str) (hs : s.length ≤ 281474976710656) : ACall En 44 [.s s] [] [.ag (pgC (ec_ s))] [] := by
 have X1 := vw_ s
 have X2 := @v9_ s
 have P1 := @zf_ s
 have P2 := @qr_ s
 have P3 := @tl_ s
 have R := vr_ s hs
 have hn := r5_ s
 have hI : f3_ s = (tOk s && !ni_ s) := rfl
 generalize (c6_ s).getD S0 = x at *
 generalize (c6_ s).isSome = ok at *
 refine al_ (fn := Tryz.f44) [] Tryz.func44 rfl rfl (by simp) fun C => ?_
 rw [aw_]
 simp only [Tryz.ntmps44, T7_, List.length_nil, Nat.reduceAdd, Nat.reduceSub, List.replicate_succ, List.replicate_zero, List.cons_append, List.nil_append, bo_]
 refine .seq (.rgn [] (by simp only [go_sem, seval, am_, ac_, aj_, ab_, aa_]; rfl) ?_ ?_)
 ·first | trivial | simp
 refine .seq (.seq (.rgn [a4_ (ml_ s hs), cl_ (tOk s = true) (fun h => o8_ s (tx_ h))] (by simp only [go_sem, seval, am_, ac_, aj_, ab_, aa_]; rfl) ?_ ?_))
 ·first | trivial | simp
 refine .condB (by simp only [go_sem, seval, am_, ac_, aj_, ab_, aa_]; rfl) (by simp only [go_sem, seval, am_, ac_, aj_, ab_, aa_]) (fun h15 => ?_) (fun h15 => ?_)
 ·refine .seq (.rgn [] (by simp only [go_sem, seval, am_, ac_, aj_, ab_, aa_]; rfl) ?_ ?_)
  ·first | trivial | simp
  refine .ret ⟨.inr rfl, ?_⟩
  exact Out.plainL (by simp only [Tryz.results44]; rfl) (by simp only [ay_, a6_, go_sem, seval, am_, ac_, aj_, ab_, aa_] <;> (split <;> rfl)) (by simp only [a5_, go_sem, seval, am_, ac_, aj_, ab_, aa_] <;> (rw [uv_] at h15; rw [P1 (by simpa using h15)]; simp [Pg0, les, leV, ler, inR])) (by simp only [go_sem, seval, am_, ac_, aj_, ab_, aa_])
 ·refine .skip (.seq (.rgn [a4_ R] (by simp only [go_sem, seval, am_, ac_, aj_, ab_, aa_]; rfl) ?_ ?_))
  ·first | trivial | simp
  refine .seq (.seq (.rgn [] (by simp only [go_sem, seval, am_, ac_, aj_, ab_, aa_]; rfl) ?_ ?_))
  ·first | trivial | simp
  refine .condB (by simp only [go_sem, seval, am_, ac_, aj_, ab_, aa_]; rfl) (by simp only [go_sem, seval, am_, ac_, aj_, ab_, aa_]) (fun h23 => ?_) (fun h23 => ?_)
  ·refine .seq (.rgn [] (by simp only [go_sem, seval, am_, ac_, aj_, ab_, aa_]; rfl) ?_ ?_)
   ·first | trivial | simp
   refine .ret ⟨.inr rfl, ?_⟩
   exact Out.plainL (by simp only [Tryz.results44]; rfl) (by simp only [ay_, a6_, go_sem, seval, am_, ac_, aj_, ab_, aa_] <;> (split <;> rfl)) (by simp only [a5_, go_sem, seval, am_, ac_, aj_, ab_, aa_] <;> (rw [uv_] at h15; rw [P2 (by simpa using h15) (by simpa using h23)]; simp [les, leV, ler, inR])) (by simp only [go_sem, seval, am_, ac_, aj_, ab_, aa_])
  ·refine .skip (.seq (.rgn [a4_ (u9_ x X1)] (by simp only [go_sem, seval, am_, ac_, aj_, ab_, aa_]; rfl) ?_ ?_))
   ·first | trivial | simp
   refine .seq (.rgn [] (by simp only [go_sem, seval, am_, ac_, aj_, ab_, aa_]; rfl) ?_ ?_)
   ·first | trivial | simp
   refine .ret ⟨.inr rfl, ?_⟩
   exact Out.plainL (by simp only [Tryz.results44]; rfl) (by simp only [ay_, a6_, go_sem, seval, am_, ac_, aj_, ab_, aa_] <;> (split <;> rfl)) (by simp only [a5_, go_sem, seval, am_, ac_, aj_, ab_, aa_] <;> (rw [uv_] at h15; rw [P3 (by simpa using h15) (by simpa using h23)]; simp [les, leV, ler, a9_])) (by simp only [go_sem, seval, am_, ac_, aj_, ab_, aa_])
theorem c4_ {a b : Pg} (h : (((!(a.line == b.line) || !(a.good == b.good)) || !(a.text == b.text)) || ((a.frm.length : Int) != (b.frm.length : Int))) = false) : a.line = b.line ∧ a.good = b.good ∧ a.text = b.text ∧ a.frm.length = b.frm.length := by
 simp only [Bool.or_eq_false_iff, Bool.not_eq_false', beq_iff_eq, bne_eq_false_iff_eq] at h
 exact ⟨h.1.1.1, h.1.1.2, h.1.2, by omega⟩
theorem ams_ {a b : Pg} (h : a.line = b.line ∧ a.good = b.good ∧ a.text = b.text ∧ a.frm.length = b.frm.length) {j : Nat} (hj : a.frm.length ≤ j) (hf : a.frm.take j = b.frm.take j) : a = b := by
 obtain ⟨l, g, t, f⟩ := a
 obtain ⟨l', g', t', f'⟩ := b
 obtain ⟨rfl, rfl, rfl, hl⟩ := h
 dsimp only at hl hj hf
 rw [T1_ hj, T1_ (by omega)] at hf
 rw [hf]
theorem cr_ {α β : Type} {a : List α} {b : List β} (h : ((a.length : Int) != (b.length : Int)) = false) : a.length = b.length := by
 rw [bne_eq_false_iff_eq] at h; omega
theorem aep_ (a b : List Pg) (ha : a.length ≤ 1000000) (hb : b.length ≤ 1000000) (hA : ∀ p ∈ a, p.frm.length ≤ 4000000) : ACall En 15 [.sl false (pgR a), .sl false (pgR b)] [] [.b (decide (a = b))] [] := by
 refine al_ (fn := Tryz.f15) [] Tryz.func15 rfl rfl (by simp) fun C => ?_
 rw [aw_]
 simp only [Tryz.ntmps15, T7_, List.length_nil, Nat.reduceAdd, Nat.reduceSub, List.replicate_succ, List.replicate_zero, List.cons_append, List.nil_append, bo_]
 refine .seq (.rgn [] (by simp only [go_sem, seval, ae_, ad_, ah_, ac_, aj_]; rfl) ?_ ?_)
 ·(first | trivial | (simp; done) | (have q := cr_ h11; simp only [T3_] at h15; and_intros <;> first | omega | exact fun h => ⟨h, by omega, by omega⟩ | exact fun h => by rw [h]; rfl) | (have q := cr_ h11; have q2 := (c4_ h69).2.2.2; simp only [T3_] at h15 h77; and_intros <;> omega))
 refine .seq (.seq (.rgn [] (by simp only [go_sem, seval, ae_, ad_, ah_, ac_, aj_]; rfl) ?_ ?_))
 ·(first | trivial | (simp; done) | (have q := cr_ h11; simp only [T3_] at h15; and_intros <;> first | omega | exact fun h => ⟨h, by omega, by omega⟩ | exact fun h => by rw [h]; rfl) | (have q := cr_ h11; have q2 := (c4_ h69).2.2.2; simp only [T3_] at h15 h77; and_intros <;> omega))
 refine .condB (by simp only [go_sem, seval, ae_, ad_, ah_, ac_, aj_]; rfl) (by simp only [go_sem, seval, ae_, ad_, ah_, ac_, aj_]) (fun h11 => ?_) (fun h11 => ?_)
 ·refine .seq (.rgn [] (by simp only [go_sem, seval, ae_, ad_, ah_, ac_, aj_]; rfl) ?_ ?_)
  ·(first | trivial | (simp; done) | (have q := cr_ h11; simp only [T3_] at h15; and_intros <;> first | omega | exact fun h => ⟨h, by omega, by omega⟩ | exact fun h => by rw [h]; rfl) | (have q := cr_ h11; have q2 := (c4_ h69).2.2.2; simp only [T3_] at h15 h77; and_intros <;> omega))
  refine .ret ⟨.inr rfl, ?_⟩
  exact Out.plain (by simp only [Tryz.results15]; rfl) (by simp only [ay_, a6_, go_sem, seval, ae_, ad_, ah_, ac_, aj_] <;> (split <;> rfl)) (by simp only [a5_, go_sem, seval, ae_, ad_, ah_, ac_, aj_] <;> (rw [decide_eq_false]; rintro rfl; simp at h11)) (by simp only [go_sem, seval, ae_, ad_, ah_, ac_, aj_])
 ·refine .skip (.seq (.seq (.rgn [] (by simp only [go_sem, seval, ae_, ad_, ah_, ac_, aj_]; rfl) ?_ ?_)))
  ·(first | trivial | (simp; done) | (have q := cr_ h11; simp only [T3_] at h15; and_intros <;> first | omega | exact fun h => ⟨h, by omega, by omega⟩ | exact fun h => by rw [h]; rfl) | (have q := cr_ h11; have q2 := (c4_ h69).2.2.2; simp only [T3_] at h15 h77; and_intros <;> omega))
  refine .block (.loopK (fun k : Nat => ⟨[.sl false (pgR a), .sl false (pgR b), .no, .no, .no, .i .i64 k, .no, .no, .no, .no, .no, .no, .no, .no, .no, .no, .no, .no, .no, .no, .no, .no, .no, .no, .no, .no, .no, .no, .no, .no, .no, .no, .no, .no, .no, .no, .no, .no, .no, .no, .no, .no, .no, .no, .no, .no, .no, .no, .no, .no, .no, .no, .no, .no, .no, .no, .no, .no, .no, .no, .no, .no, .no, .no, .no, .no, .no, .no, .no, .no, .no, .no, .no, .no, .no, .no, .no, .no, .no, .no, .no, .no, .no, .no, .no, .no, .no, .no, .no, .no, .no, .no, .no, .no, .no, .no, .no], be_ [], us []⟩) (fun k : Nat => k ≤ a.length ∧ a.take k = b.take k) (fun k : Nat => a.length - k) (0) ?_ ?_ (fun k hI => ?_))
  ·exact ⟨Nat.zero_le _, rfl⟩
  ·exact Can.weak (Weak.lit (by simp only [go_sem, seval, ae_, ad_, ah_, ac_, aj_, as_, leV, ap_, ar_, V.inn, us, T9_, Ta_] <;> ((try simp))) (by simp only [go_sem, seval, ae_, ad_, ah_, ac_, aj_, as_, leV, ap_, ar_, V.inn, us, T9_, Ta_]) (by simp only [go_sem, seval, ae_, ad_, ah_, ac_, aj_, as_, leV, ap_, ar_, V.inn, us, T9_, Ta_]))
  refine .seq (.seq (.rgn [] (by simp only [go_sem, seval, ae_, ad_, ah_, ac_, aj_]; rfl) ?_ ?_))
  ·(first | trivial | (simp; done) | (have q := cr_ h11; simp only [T3_] at h15; and_intros <;> first | omega | exact fun h => ⟨h, by omega, by omega⟩ | exact fun h => by rw [h]; rfl) | (have q := cr_ h11; have q2 := (c4_ h69).2.2.2; simp only [T3_] at h15 h77; and_intros <;> omega))
  refine .condB (by simp only [go_sem, seval, ae_, ad_, ah_, ac_, aj_]; rfl) (by simp only [go_sem, seval, ae_, ad_, ah_, ac_, aj_]) (fun h15 => ?_) (fun h15 => ?_)
  ·refine .skip (.seq (.block (.seq (.seq (.rgnD [] enM (by simp only [go_sem, seval, ae_, ad_, ah_, ac_, aj_, de_ (show k < a.length by simpa using h15), de_ (show k < b.length by have q := cr_ h11; simp only [T3_] at h15; omega)]; rfl) (by rfl) ?_ ?_)))))
   ·(first | trivial | (simp; done) | (have q := cr_ h11; simp only [T3_] at h15; and_intros <;> first | omega | exact fun h => ⟨h, by omega, by omega⟩ | exact fun h => by rw [h]; rfl) | (have q := cr_ h11; have q2 := (c4_ h69).2.2.2; simp only [T3_] at h15 h77; and_intros <;> omega))
   refine .condB (by simp only [go_sem, seval, ae_, ad_, ah_, ac_, aj_]; rfl) (by simp only [go_sem, seval, ae_, ad_, ah_, ac_, aj_]) (fun h69 => ?_) (fun h69 => ?_)
   ·refine .seq (.rgn [] (by simp only [go_sem, seval, ae_, ad_, ah_, ac_, aj_]; rfl) ?_ ?_)
    ·(first | trivial | (simp; done) | (have q := cr_ h11; simp only [T3_] at h15; and_intros <;> first | omega | exact fun h => ⟨h, by omega, by omega⟩ | exact fun h => by rw [h]; rfl) | (have q := cr_ h11; have q2 := (c4_ h69).2.2.2; simp only [T3_] at h15 h77; and_intros <;> omega))
    refine .ret ⟨.inr rfl, ?_⟩
    exact Out.plain (by simp only [Tryz.results15]; rfl) (by simp only [ay_, a6_, go_sem, seval, ae_, ad_, ah_, ac_, aj_] <;> (split <;> rfl)) (by simp only [a5_, go_sem, seval, ae_, ad_, ah_, ac_, aj_] <;> (rw [decide_eq_false]; rintro rfl; simp at h69)) (by simp only [go_sem, seval, ae_, ad_, ah_, ac_, aj_])
   ·refine .skip (.seq (.rgn [] (by simp only [go_sem, seval, ae_, ad_, ah_, ac_, aj_]; rfl) ?_ ?_))
    ·(first | trivial | (simp; done) | (have q := cr_ h11; simp only [T3_] at h15; and_intros <;> first | omega | exact fun h => ⟨h, by omega, by omega⟩ | exact fun h => by rw [h]; rfl) | (have q := cr_ h11; have q2 := (c4_ h69).2.2.2; simp only [T3_] at h15 h77; and_intros <;> omega))
    refine .block (.loopK (fun j : Nat => ⟨[.sl false (pgR a), .sl false (pgR b), .no, .no, .no, .i .i64 k, .i .i64 j, .no, .no, .no, .no, .no, .no, .no, .no, .no, .no, .no, .no, .no, .no, .no, .no, .no, .no, .no, .no, .no, .no, .no, .no, .no, .no, .no, .no, .no, .no, .no, .no, .no, .no, .no, .no, .no, .no, .no, .no, .no, .no, .no, .no, .no, .no, .no, .no, .no, .no, .no, .no, .no, .no, .no, .no, .no, .no, .no, .no, .no, .no, .no, .no, .no, .no, .no, .no, .no, .no, .no, .no, .no, .no, .no, .no, .no, .no, .no, .no, .no, .no, .no, .no, .no, .no, .no, .no, .no, .no], be_ [], us []⟩) (fun j : Nat => k ≤ a.length ∧ a.take k = b.take k ∧ j ≤ (a.getD k Pg0).frm.length ∧ (a.getD k Pg0).frm.take j = (b.getD k Pg0).frm.take j) (fun j : Nat => (a.getD k Pg0).frm.length - j) (0) ?_ ?_ (fun j hI => ?_))
    ·exact ⟨hI.1, hI.2, Nat.zero_le _, rfl⟩
    ·exact Can.weak (Weak.lit (by simp only [go_sem, seval, ae_, ad_, ah_, ac_, aj_, as_, leV, ap_, ar_, V.inn, us, T9_, Ta_] <;> ((try simp))) (by simp only [go_sem, seval, ae_, ad_, ah_, ac_, aj_, as_, leV, ap_, ar_, V.inn, us, T9_, Ta_]) (by simp only [go_sem, seval, ae_, ad_, ah_, ac_, aj_, as_, leV, ap_, ar_, V.inn, us, T9_, Ta_]))
    refine .seq (.seq (.rgn [] (by simp only [go_sem, seval, ae_, ad_, ah_, ac_, aj_, de_ (show k < a.length by simpa using h15)]; rfl) ?_ ?_))
    ·(first | trivial | (simp; done) | (have q := cr_ h11; simp only [T3_] at h15; and_intros <;> first | omega | exact fun h => ⟨h, by omega, by omega⟩ | exact fun h => by rw [h]; rfl) | (have q := cr_ h11; have q2 := (c4_ h69).2.2.2; simp only [T3_] at h15 h77; and_intros <;> omega))
    refine .condB (by simp only [go_sem, seval, ae_, ad_, ah_, ac_, aj_]; rfl) (by simp only [go_sem, seval, ae_, ad_, ah_, ac_, aj_]) (fun h77 => ?_) (fun h77 => ?_)
    ·refine .skip (.seq (.block (.seq (.rgnD [] enM (by simp only [go_sem, seval, ae_, ad_, ah_, ac_, aj_, de_ (show k < a.length by simpa using h15), de_ (show k < b.length by have q := cr_ h11; simp only [T3_] at h15; omega), en_ (show j < (a.getD k Pg0).frm.length by simpa using h77), en_ (show j < (b.getD k Pg0).frm.length by have q := (c4_ h69).2.2.2; simp only [T3_] at h77; omega)]; rfl) (by rfl) ?_ ?_))))
     ·(first | trivial | (simp; done) | (have q := cr_ h11; simp only [T3_] at h15; and_intros <;> first | omega | exact fun h => ⟨h, by omega, by omega⟩ | exact fun h => by rw [h]; rfl) | (have q := cr_ h11; have q2 := (c4_ h69).2.2.2; simp only [T3_] at h15 h77; and_intros <;> omega))
     refine .condB (by simp only [go_sem, seval, ae_, ad_, ah_, ac_, aj_]; rfl) (by simp only [go_sem, seval, ae_, ad_, ah_, ac_, aj_]) (fun h96 => ?_) (fun h96 => ?_)
     ·refine .seq (.rgn [] (by simp only [go_sem, seval, ae_, ad_, ah_, ac_, aj_]; rfl) ?_ ?_)
      ·(first | trivial | (simp; done) | (have q := cr_ h11; simp only [T3_] at h15; and_intros <;> first | omega | exact fun h => ⟨h, by omega, by omega⟩ | exact fun h => by rw [h]; rfl) | (have q := cr_ h11; have q2 := (c4_ h69).2.2.2; simp only [T3_] at h15 h77; and_intros <;> omega))
      refine .ret ⟨.inr rfl, ?_⟩
      exact Out.plain (by simp only [Tryz.results15]; rfl) (by simp only [ay_, a6_, go_sem, seval, ae_, ad_, ah_, ac_, aj_] <;> (split <;> rfl)) (by simp only [a5_, go_sem, seval, ae_, ad_, ah_, ac_, aj_] <;> (rw [decide_eq_false]; rintro rfl; simp at h96)) (by simp only [go_sem, seval, ae_, ad_, ah_, ac_, aj_])
     ·refine .skip (.rgn [] (by simp only [go_sem, seval, ae_, ad_, ah_, ac_, aj_]; rfl) ?_ ?_)
      ·(first | trivial | (simp; done) | (have q := cr_ h11; simp only [T3_] at h15; and_intros <;> first | omega | exact fun h => ⟨h, by omega, by omega⟩ | exact fun h => by rw [h]; rfl) | (have q := cr_ h11; have q2 := (c4_ h69).2.2.2; simp only [T3_] at h15 h77; and_intros <;> omega))
      refine Exists.intro (j + 1) ⟨?_, ?_, ?_⟩
      ·have q2 := (c4_ h69).2.2.2; simp only [T3_] at h77; exact ⟨hI.1, hI.2.1, by omega, l7_ (d := 0) (by omega) (by omega) hI.2.2.2 (bne_eq_false_iff_eq.1 h96)⟩
      ·simp only [T3_] at h77; omega
      exact Can.weak (Weak.lit (by simp only [go_sem, seval, ae_, ad_, ah_, ac_, aj_, as_, leV, ap_, ar_, V.inn, us, T9_, Ta_] <;> (simp only [T3_] at h77 h15; have := hA _ (bh_ (d := Pg0) (show k < a.length by omega)); exact bd_ (n := ((j + 1 : Nat) : Int)) (by omega) (by omega))) (by simp only [go_sem, seval, ae_, ad_, ah_, ac_, aj_, as_, leV, ap_, ar_, V.inn, us, T9_, Ta_]) (by simp only [go_sem, seval, ae_, ad_, ah_, ac_, aj_, as_, leV, ap_, ar_, V.inn, us, T9_, Ta_]))
    ·refine .exit (.rgn [] (by simp only [go_sem, seval, ae_, ad_, ah_, ac_, aj_]; rfl) ?_ ?_)
     ·(first | trivial | (simp; done) | (have q := cr_ h11; simp only [T3_] at h15; and_intros <;> first | omega | exact fun h => ⟨h, by omega, by omega⟩ | exact fun h => by rw [h]; rfl) | (have q := cr_ h11; have q2 := (c4_ h69).2.2.2; simp only [T3_] at h15 h77; and_intros <;> omega))
     refine Exists.intro (k + 1) ⟨?_, ?_, ?_⟩
     ·have q := cr_ h11; simp only [T3_] at h15; simp only [T4_] at h77; exact ⟨by omega, l7_ (d := Pg0) (by omega) (by omega) hI.2.1 (ams_ (c4_ h69) (by omega) hI.2.2.2)⟩
     ·simp only [T3_] at h15; omega
     exact Can.weak (Weak.lit (by simp only [go_sem, seval, ae_, ad_, ah_, ac_, aj_, as_, leV, ap_, ar_, V.inn, us, T9_, Ta_] <;> (simp only [T3_] at h15; exact bd_ (n := ((k + 1 : Nat) : Int)) (by omega) (by omega))) (by simp only [go_sem, seval, ae_, ad_, ah_, ac_, aj_, as_, leV, ap_, ar_, V.inn, us, T9_, Ta_]) (by simp only [go_sem, seval, ae_, ad_, ah_, ac_, aj_, as_, leV, ap_, ar_, V.inn, us, T9_, Ta_]))
  ·refine .exit (.seq (.rgn [] (by simp only [go_sem, seval, ae_, ad_, ah_, ac_, aj_]; rfl) ?_ ?_))
   ·(first | trivial | (simp; done) | (have q := cr_ h11; simp only [T3_] at h15; and_intros <;> first | omega | exact fun h => ⟨h, by omega, by omega⟩ | exact fun h => by rw [h]; rfl) | (have q := cr_ h11; have q2 := (c4_ h69).2.2.2; simp only [T3_] at h15 h77; and_intros <;> omega))
   refine .ret ⟨.inr rfl, ?_⟩
   exact Out.plain (by simp only [Tryz.results15]; rfl) (by simp only [ay_, a6_, go_sem, seval, ae_, ad_, ah_, ac_, aj_] <;> (split <;> rfl)) (by simp only [a5_, go_sem, seval, ae_, ad_, ah_, ac_, aj_] <;> (have q := cr_ h11; simp only [T4_] at h15; have e := hI.2; rw [T1_ (by omega), T1_ (by omega)] at e; rw [decide_eq_true e])) (by simp only [go_sem, seval, ae_, ad_, ah_, ac_, aj_])
end
end Go.Proofs.YtpikbndepapbhaaGreatDoor
