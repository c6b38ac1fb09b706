/- What the library's functions answer: strings.Contains for a newline. Conditions: none. -/
import Derived.Test.YtefmbmafdgedmaaGreatDoorKv
import Derived.Lib.IndexAny
import Derived.Test.YtefmbmafdgedmaaGreatDoorK7
import Derived.Test.YtefmbmafdgedmaaGreatDoorKq
import Derived.Test.YtefmbmafdgedmaaGreatDoorKh
import Derived.Test.YtefmbmafdgedmaaGreatDoorK6
import Derived.Test.YtefmbmafdgedmaaGreatDoorKo
set_option linter.unusedVariables false
set_option linter.unusedSimpArgs false
namespace Go.Proofs.YtefmbmafdgedmaaGreatDoor
section
open Go.RowKit
set_option maxRecDepth 100000
def sp_ (s : Str) : Bool := s.contains 10
theorem ah6_ (s : Str) : ACall En 164 [.s s, .s [10]] [] [.b (sp_ s)] [] := by
 refine i9_ (fn := Tryz.f164) Tryz.func164 rfl rfl fun S w xs hx _ _ => ?_
 simp only [VRs, VR] at hx
 obtain ⟨x, r, e1, rfl, y, q, e2, rfl, rfl⟩ := hx
 subst e2
 obtain rfl : xs = #[.string ⟨s.toArray⟩, .string ⟨[10].toArray⟩] := by apply Array.ext'; simpa using e1
 refine (Tryz.strings_Contains_one ⟨s.toArray⟩ 10 w).mono ?_
 rintro e w' ⟨rfl, rfl⟩
 refine ⟨[_], rfl, Below.refl _ _, .cons ?_ .nil⟩
 simp only [VR, sp_]
 rw [Lib.contains_iff_indexByte]
end
section
set_option maxRecDepth 100000
set_option maxHeartbeats 4000000
theorem ab7_ : ACall En 180 [.sl false []] [] [.ow 0 1 0 0] [⟨3, 1, []⟩] := by
 refine ao_ (fn := Tryz.f180) [17] Tryz.func180 rfl rfl (by simp) fun C => ?_
 rw [bb_]
 simp only [Tryz.ntmps180, T7_, List.length_nil, Nat.reduceAdd, Nat.reduceSub, List.replicate_succ, List.replicate_zero, List.cons_append, List.nil_append, bu_]
 refine .seq (.rgn [] (by simp only [go_sem, seval]; rfl) ?_ ?_)
 ·first | trivial | simp
 refine .seq (.seq (.rgnS [4] [nilO En] (by simp only [go_sem, seval]; rfl) ?_ ?_))
 ·first | trivial | simp
 refine .condQ (by simp only [go_sem, seval] <;> rfl) (by simp only [go_sem, seval]) ?_ ?_
 ·refine .seq (.rgn [] (by simp only [go_sem, seval]; rfl) ?_ ?_)
  ·first | trivial | simp
  refine .can (Can.ownSlot 2 17 3 1 (by simp only [go_sem, seval] <;> rfl) (by simp only [go_sem, seval]) (by simp only [go_sem, seval] <;> rfl)) ?_
  refine .ret ⟨.inr rfl, ?_⟩
  exact Out.mem' (by simp only [Tryz.results180]; rfl) (by simp only [bd_, bo_, go_sem, seval]) (by simp only [bn_, rns, rn, go_sem, seval] <;> (simp)) (by simp) rfl (by decide) (by simp only [go_sem, seval]) (by simp only [ar_, go_sem, seval]) (by simp only [an_, go_sem, seval] <;> (simp))
 ·refine .skip (.seq (.rgn [] (by simp only [go_sem, seval]; rfl) ?_ ?_))
  ·first | trivial | simp
  refine .ret ⟨.inr rfl, ?_⟩
  exact Out.mem' (by simp only [Tryz.results180]; rfl) (by simp only [bd_, bo_, go_sem, seval]) (by simp only [bn_, rns, rn, go_sem, seval] <;> (simp)) (by simp) rfl (by decide) (by simp only [go_sem, seval]) (by simp only [ar_, go_sem, seval]) (by simp only [an_, go_sem, seval] <;> (simp))
theorem abe_ (e : Int) (r : List Int) (hl : r.length < 1099511627776) : ACall En 180 [.sl false (inR (e :: r))] [] [.ow 0 1 0 (r.length + 1)] [⟨3, 1, inR (e :: r)⟩] := by
 refine ao_ (fn := Tryz.f180) [17] Tryz.func180 rfl rfl (by simp) fun C => ?_
 rw [bb_]
 simp only [Tryz.ntmps180, T7_, List.length_nil, Nat.reduceAdd, Nat.reduceSub, List.replicate_succ, List.replicate_zero, List.cons_append, List.nil_append, bu_]
 refine .seq (.rgn [] (by simp only [go_sem, seval, ac_, ah_, ey_, cw_, c9_, V.pure]; rfl) ?_ ?_)
 ·first | trivial | simp
 refine .seq (.seq (.rgnS [4] [nilO En] (by simp only [go_sem, seval, ac_, ah_, ey_, cw_, c9_, V.pure]; rfl) ?_ ?_))
 ·first | trivial | simp
 refine .condB (by simp only [go_sem, seval, ac_, ah_, ey_, cw_, c9_, V.pure]; rfl) (by simp only [go_sem, seval, ac_, ah_, ey_, cw_, c9_, V.pure]) (fun h4 => ?_) (fun h4 => ?_)
 ·exact absurd h4 (by simp)
 ·refine .skip (.seq (.rgn [] (by simp only [go_sem, seval, ac_, ah_, ey_, cw_, c9_, V.pure]; rfl) ?_ ?_))
  ·have := ah_ r; simp [ey_, xa_]; omega
  refine .ret ⟨.inr rfl, ?_⟩
  exact Out.mem' (by simp only [Tryz.results180]; rfl) (by simp only [bd_, bo_, go_sem, seval, ac_, ah_, ey_, cw_, c9_, V.pure]) (by simp only [bn_, rns, rn, go_sem, seval, ac_, ah_, ey_, cw_, c9_, V.pure] <;> (simp [ah_])) (by simp) rfl (by decide) (by simp only [go_sem, seval, ac_, ah_, ey_, cw_, c9_, V.pure]) (by simp only [ar_, go_sem, seval, ac_, ah_, ey_, cw_, c9_, V.pure]) (by simp only [an_, go_sem, seval, ac_, ah_, ey_, cw_, c9_, V.pure] <;> (simp [ey_, cz_, ac_]))
theorem afc_ (l : List Int) (hl : l.length < 1099511627776) : ACall En 180 [.sl false (inR l)] [] [.ow 0 1 0 l.length] [⟨3, 1, inR l⟩] := by
 cases l with
 | nil => simp only [inR]; exact ab7_
 | cons e r => exact abe_ e r (by simp at hl; omega)
theorem ahs_ (l : List Int) (hl : l.length < 1099511627776) : ACall En 179 [.ow 0 1 0 l.length] [⟨3, 1, inR l⟩] [.ow 0 1 0 l.length] [⟨3, 1, inR l⟩] := by
 refine ao_ (fn := Tryz.f179) [0] Tryz.func179 rfl rfl (by simp) fun C => ?_
 rw [bb_]
 simp only [Tryz.ntmps179, T7_, List.length_nil, Nat.reduceAdd, Nat.reduceSub, List.replicate_succ, List.replicate_zero, List.cons_append, List.nil_append, bu_]
 refine .seq (.rgn [] (by simp only [go_sem, seval, ac_, ah_]; rfl) ?_ ?_)
 ·first | trivial | simp
 refine .seq (.rgn [] (by simp only [go_sem, seval, ac_, ah_]; rfl) ?_ ?_)
 ·first | trivial | simp
 refine .ret ⟨.inr rfl, ?_⟩
 exact Out.mem' (by simp only [Tryz.results179]; rfl) (by simp only [bd_, bo_, go_sem, seval, ac_, ah_]) (by simp only [bn_, rns, rn, go_sem, seval, ac_, ah_] <;> (simp)) (by simp) rfl (by decide) (by simp only [go_sem, seval, ac_, ah_]) (by simp only [ar_, go_sem, seval, ac_, ah_]) (by simp only [an_, go_sem, seval, ac_, ah_] <;> (simp [cz_, ac_]))
theorem p8_ (l : List Int) (hl : l.length < 1099511627776) : ACall En 126 [.sl false (inR l)] [] [.ow 0 1 0 l.length] [⟨3, 1, inR l⟩] := by
 refine ao_ (fn := Tryz.f126) [14] Tryz.func126 rfl rfl (by simp) fun C => ?_
 rw [bb_]
 simp only [Tryz.ntmps126, T7_, List.length_nil, Nat.reduceAdd, Nat.reduceSub, List.replicate_succ, List.replicate_zero, List.cons_append, List.nil_append, bu_]
 refine .seq (.rgn [] (by simp only [go_sem, seval, ac_, ah_, an_, ar_, cz_]; rfl) ?_ ?_)
 ·(first | trivial | (simp; done) | (simp [cz_, ac_, by_]; done))
 refine .seq (.rgn [c4_ [] [14] (afc_ l hl), c4_ [14] [] (ahs_ l hl)] (by simp only [go_sem, seval, ac_, ah_, an_, ar_, cz_]; rfl) ?_ ?_)
 ·(first | trivial | (simp; done) | (simp [cz_, ac_, by_]; done))
 refine .ret ⟨.inr rfl, ?_⟩
 exact Out.mem' (by simp only [Tryz.results126]; rfl) (by simp only [bd_, bo_, go_sem, seval, ac_, ah_, an_, ar_, cz_]) (by simp only [bn_, rns, rn, go_sem, seval, ac_, ah_, an_, ar_, cz_] <;> (simp)) (by simp) rfl (by decide) (by simp only [go_sem, seval, ac_, ah_, an_, ar_, cz_]) (by simp only [ar_, go_sem, seval, ac_, ah_, an_, ar_, cz_]) (by simp only [an_, go_sem, seval, ac_, ah_, an_, ar_, cz_] <;> (simp [cz_, ac_]))
theorem aez_ (l : List Int) (hl : l.length < 1099511627776) : ACall En 126 [.sl false (inR l)] [] [.sl false (inR l)] [] :=
 (p8_ l hl).frz1 (by simp [gi_, frz, ah_, T1_])
structure Pg where
 line : Str
 good : Bool
 text : Str
 frm : List Int
deriving DecidableEq
def Pg0 : Pg := ⟨[], false, [], []⟩
def pgC (p : Pg) : List V := [.s p.line, .b p.good, .s p.text, .sl false (inR p.frm)]
def pgR (l : List Pg) : List (List V) := l.map pgC
theorem ae_ (l : List Pg) : (pgR l).length = l.length := by simp [pgR]
theorem ad_ : ∀ l : List Pg, cw_ (pgR l) = true
 | [] => rfl
 | p :: l => by
  show cw_ (pgC p :: pgR l) = true
  simp only [cw_, pgC, c9_, V.pure, ac_, ad_ l, Bool.and_true]
theorem rr_ (p : Pg) : c9_ (pgC p) = true := by simp only [pgC, c9_, V.pure, ac_, Bool.and_true]
theorem eg_ {l : List Pg} {k : Nat} (h : k < l.length) : (pgR l).getD k [] = pgC (l.getD k Pg0) := by
 simp [pgR, T8_, T6_ h]
theorem aj_ (p : Pg) : pgC p = [.s p.line, .b p.good, .s p.text, .sl false (inR p.frm)] := rfl
def fr_ (s : Str) : Bool := tOk s && !sp_ s
theorem r4_ (s : Str) : sp_ s = decide (1 < (spl s).length) := by
 unfold sp_
 by_cases h : (10 : UInt8) ∈ s
 ·obtain ⟨a, b, rfl, ha⟩ := List.eq_append_cons_of_mem h
  rw [t5_ ha]
  have := List.length_pos_iff.2 (adw_ b)
  simp; omega
 ·rw [qb_ h]; simpa using h
def e8_ (s : Str) : Pg := if fr_ s then (match d4_ s with | none => ⟨s, false, [], []⟩ | some x => ⟨s, true, emT x, emF x⟩) else Pg0
theorem rn_ (s : Str) (hs : s.length ≤ 281474976710656) : ACall En 124 [.s s] [] [.b (fr_ s)] [] := by
 refine ao_ (fn := Tryz.f124) [] Tryz.func124 rfl rfl (by simp) fun C => ?_
 rw [bb_]
 simp only [Tryz.ntmps124, T7_, List.length_nil, Nat.reduceAdd, Nat.reduceSub, List.replicate_succ, List.replicate_zero, List.cons_append, List.nil_append, bu_]
 refine .seq (.rgn [] (by simp only [go_sem, seval]; rfl) ?_ ?_)
 ·first | trivial | simp
 refine .seq (.rgn [bj_ (abk_ s hs), bj_ (ah6_ s)] (by simp only [go_sem, seval]; rfl) ?_ ?_)
 ·first | trivial | simp
 refine .ret ⟨.inr rfl, ?_⟩
 exact Out.plain (by simp only [Tryz.results124]; rfl) (by simp only [bd_, bo_, go_sem, seval] <;> (split <;> rfl)) (by simp only [bn_, go_sem, seval] <;> (rfl)) (by simp only [go_sem, seval])
end
section
set_option maxRecDepth 100000
set_option maxHeartbeats 4000000
theorem w2_ (s : Str) : hi_ ((d4_ s).getD S0) = true := by
 cases h : d4_ s with
 | none => decide
 | some x =>
  by_cases hc : (c0_ s).isSome = true ∧ sok (rdS (du_ s)) = true ∧ vq_ (rdS (du_ s)) = s
  ·rw [p0_ hc.1 hc.2.1 hc.2.2] at h
   cases h; exact ad8_ (uk_ s).1
  ·rw [pw_ hc] at h; cases h
theorem vi_ {s : Str} (h : (d4_ s).isSome = true) : sok ((d4_ s).getD S0) = true := by
 cases hx : d4_ s with
 | none => rw [hx] at h; cases h
 | some x => exact (nr_.1 hx).1
theorem zr_ {s : Str} (h : fr_ s = false) : e8_ s = Pg0 := by unfold e8_; rw [h]; rfl
theorem rb_ {s : Str} (h : fr_ s = true) (h2 : (d4_ s).isSome = false) : e8_ s = ⟨s, false, [], []⟩ := by
 unfold e8_; rw [h]
 cases hx : d4_ s with
 | none => rfl
 | some x => rw [hx] at h2; cases h2
theorem us_ {s : Str} (h : fr_ s = true) (h2 : (d4_ s).isSome = true) : e8_ s = ⟨s, true, emT ((d4_ s).getD S0), emF ((d4_ s).getD S0)⟩ := by
 unfold e8_; rw [h]
 cases hx : d4_ s with
 | none => rw [hx] at h2; cases h2
 | some x => rfl
theorem ans_ {s : Sl} (h : sok s = true) : (emF s).length = (bw (bof s)).length := by
 have q := hn_ (ek_ h)
 unfold emF; rw [if_pos h, ← ui_ (ek_ h), gu_]
 rw [← q.2, List.length_map]
theorem emFL {s : Sl} (h : sok s = true) : (emF s).length < 1000000 := by rw [ans_ h]; have := (rq_ (hu_ (ek_ h))).1; omega
theorem r7_ (s : Str) : (!tOk s || decide (((spl s).length : Int) > 1)) = !fr_ s := by
 unfold fr_; rw [r4_, Bool.not_and, Bool.not_not]; congr 1; exact decide_eq_decide.2 (by omega)
theorem n4_ (s : Str) (hs : s.length ≤ 281474976710656) : ACall En 72 [.s s] [] [.ag (pgC (e8_ s))] [] := by
 have X1 := w2_ s
 have X2 := @vi_ s
 have P1 := @zr_ s
 have P2 := @rb_ s
 have P3 := @us_ s
 have R := wv_ s hs
 generalize (d4_ s).getD S0 = x at *
 generalize (d4_ s).isSome = ok at *
 refine ao_ (fn := Tryz.f72) [] Tryz.func72 rfl rfl (by simp) fun C => ?_
 rw [bb_]
 simp only [Tryz.ntmps72, T7_, List.length_nil, Nat.reduceAdd, Nat.reduceSub, List.replicate_succ, List.replicate_zero, List.cons_append, List.nil_append, bu_]
 refine .seq (.rgn [] (by simp only [go_sem, seval, as_, ac_, aj_]; rfl) ?_ ?_)
 ·(first | trivial | (simp; done) | (simpa using h17) | exact ⟨by simpa using h17, rfl⟩)
 refine .seq (.seq (.rgn [bj_ (rn_ s hs)] (by simp only [go_sem, seval, as_, ac_, aj_]; rfl) ?_ ?_))
 ·(first | trivial | (simp; done) | (simpa using h17) | exact ⟨by simpa using h17, rfl⟩)
 refine .condB (by simp only [go_sem, seval, as_, ac_, aj_]; rfl) (by simp only [go_sem, seval, as_, ac_, aj_]) (fun h9 => ?_) (fun h9 => ?_)
 ·refine .seq (.rgn [] (by simp only [go_sem, seval, as_, ac_, aj_]; rfl) ?_ ?_)
  ·(first | trivial | (simp; done) | (simpa using h17) | exact ⟨by simpa using h17, rfl⟩)
  refine .ret ⟨.inr rfl, ?_⟩
  exact Out.plainL (by simp only [Tryz.results72]; rfl) (by simp only [bd_, bo_, go_sem, seval, as_, ac_, aj_] <;> (split <;> rfl)) (by simp only [bn_, go_sem, seval, as_, ac_, aj_] <;> (rw [P1 (by simpa using h9)]; simp [Pg0, les, leV, ler, inR])) (by simp only [go_sem, seval, as_, ac_, aj_])
 ·refine .skip (.seq (.rgn [bj_ R] (by simp only [go_sem, seval, as_, ac_, aj_]; rfl) ?_ ?_))
  ·(first | trivial | (simp; done) | (simpa using h17) | exact ⟨by simpa using h17, rfl⟩)
  refine .seq (.seq (.rgn [] (by simp only [go_sem, seval, as_, ac_, aj_]; rfl) ?_ ?_))
  ·(first | trivial | (simp; done) | (simpa using h17) | exact ⟨by simpa using h17, rfl⟩)
  refine .condB (by simp only [go_sem, seval, as_, ac_, aj_]; rfl) (by simp only [go_sem, seval, as_, ac_, aj_]) (fun h17 => ?_) (fun h17 => ?_)
  ·refine .seq (.rgn [] (by simp only [go_sem, seval, as_, ac_, aj_]; rfl) ?_ ?_)
   ·(first | trivial | (simp; done) | (simpa using h17) | exact ⟨by simpa using h17, rfl⟩)
   refine .ret ⟨.inr rfl, ?_⟩
   exact Out.plainL (by simp only [Tryz.results72]; rfl) (by simp only [bd_, bo_, go_sem, seval, as_, ac_, aj_] <;> (split <;> rfl)) (by simp only [bn_, go_sem, seval, as_, ac_, aj_] <;> (rw [P2 (by simpa using h9) (by simpa using h17)]; simp [les, leV, ler, inR])) (by simp only [go_sem, seval, as_, ac_, aj_])
  ·refine .skip (.seq (.rgn [dc_ (ok = true) (fun h => amm_ x (X2 h) X1)] (by simp only [go_sem, seval, as_, ac_, aj_]; rfl) ?_ ?_))
   ·(first | trivial | (simp; done) | (simpa using h17) | exact ⟨by simpa using h17, rfl⟩)
   refine .seq (.rgn [dc_ (ok = true) (fun h => aez_ (emF x) (by have := emFL (X2 h); omega))] (by simp only [go_sem, seval, as_, ac_, aj_]; rfl) ?_ ?_)
   ·(first | trivial | (simp; done) | (simpa using h17) | exact ⟨by simpa using h17, rfl⟩)
   refine .ret ⟨.inr rfl, ?_⟩
   exact Out.plainL (by simp only [Tryz.results72]; rfl) (by simp only [bd_, bo_, go_sem, seval, as_, ac_, aj_] <;> (split <;> rfl)) (by simp only [bn_, go_sem, seval, as_, ac_, aj_] <;> (rw [P3 (by simpa using h9) (by simpa using h17)]; simp [les, leV, ler, by_])) (by simp only [go_sem, seval, as_, ac_, aj_])
theorem nf_ (s : Str) (hs : s.length ≤ 281474976710656) : ACall En 71 [.s s] [] [.ag (pgC (e8_ s))] [] := by
 have X1 := w2_ s
 have X2 := @vi_ s
 have P1 := @zr_ s
 have P2 := @rb_ s
 have P3 := @us_ s
 have R := wr_ s hs
 have hn := r4_ s
 have hI : fr_ s = (tOk s && !sp_ s) := rfl
 generalize (d4_ s).getD S0 = x at *
 generalize (d4_ s).isSome = ok at *
 refine ao_ (fn := Tryz.f71) [] Tryz.func71 rfl rfl (by simp) fun C => ?_
 rw [bb_]
 simp only [Tryz.ntmps71, T7_, List.length_nil, Nat.reduceAdd, Nat.reduceSub, List.replicate_succ, List.replicate_zero, List.cons_append, List.nil_append, bu_]
 refine .seq (.rgn [] (by simp only [go_sem, seval, as_, ac_, aj_, ab_, aa_]; rfl) ?_ ?_)
 ·first | trivial | simp
 refine .seq (.seq (.rgn [bj_ (nu_ s hs), dc_ (tOk s = true) (fun h => qw_ s (ts_ h))] (by simp only [go_sem, seval, as_, ac_, aj_, ab_, aa_]; rfl) ?_ ?_))
 ·first | trivial | simp
 refine .condB (by simp only [go_sem, seval, as_, ac_, aj_, ab_, aa_]; rfl) (by simp only [go_sem, seval, as_, ac_, aj_, ab_, aa_]) (fun h15 => ?_) (fun h15 => ?_)
 ·refine .seq (.rgn [] (by simp only [go_sem, seval, as_, ac_, aj_, ab_, aa_]; rfl) ?_ ?_)
  ·first | trivial | simp
  refine .ret ⟨.inr rfl, ?_⟩
  exact Out.plainL (by simp only [Tryz.results71]; rfl) (by simp only [bd_, bo_, go_sem, seval, as_, ac_, aj_, ab_, aa_] <;> (split <;> rfl)) (by simp only [bn_, go_sem, seval, as_, ac_, aj_, ab_, aa_] <;> (rw [r7_] at h15; rw [P1 (by simpa using h15)]; simp [Pg0, les, leV, ler, inR])) (by simp only [go_sem, seval, as_, ac_, aj_, ab_, aa_])
 ·refine .skip (.seq (.rgn [bj_ R] (by simp only [go_sem, seval, as_, ac_, aj_, ab_, aa_]; rfl) ?_ ?_))
  ·first | trivial | simp
  refine .seq (.seq (.rgn [] (by simp only [go_sem, seval, as_, ac_, aj_, ab_, aa_]; rfl) ?_ ?_))
  ·first | trivial | simp
  refine .condB (by simp only [go_sem, seval, as_, ac_, aj_, ab_, aa_]; rfl) (by simp only [go_sem, seval, as_, ac_, aj_, ab_, aa_]) (fun h23 => ?_) (fun h23 => ?_)
  ·refine .seq (.rgn [] (by simp only [go_sem, seval, as_, ac_, aj_, ab_, aa_]; rfl) ?_ ?_)
   ·first | trivial | simp
   refine .ret ⟨.inr rfl, ?_⟩
   exact Out.plainL (by simp only [Tryz.results71]; rfl) (by simp only [bd_, bo_, go_sem, seval, as_, ac_, aj_, ab_, aa_] <;> (split <;> rfl)) (by simp only [bn_, go_sem, seval, as_, ac_, aj_, ab_, aa_] <;> (rw [r7_] at h15; rw [P2 (by simpa using h15) (by simpa using h23)]; simp [les, leV, ler, inR])) (by simp only [go_sem, seval, as_, ac_, aj_, ab_, aa_])
  ·refine .skip (.seq (.rgn [bj_ (w7_ x X1)] (by simp only [go_sem, seval, as_, ac_, aj_, ab_, aa_]; rfl) ?_ ?_))
   ·first | trivial | simp
   refine .seq (.rgn [] (by simp only [go_sem, seval, as_, ac_, aj_, ab_, aa_]; rfl) ?_ ?_)
   ·first | trivial | simp
   refine .ret ⟨.inr rfl, ?_⟩
   exact Out.plainL (by simp only [Tryz.results71]; rfl) (by simp only [bd_, bo_, go_sem, seval, as_, ac_, aj_, ab_, aa_] <;> (split <;> rfl)) (by simp only [bn_, go_sem, seval, as_, ac_, aj_, ab_, aa_] <;> (rw [r7_] at h15; rw [P3 (by simpa using h15) (by simpa using h23)]; simp [les, leV, ler, by_])) (by simp only [go_sem, seval, as_, ac_, aj_, ab_, aa_])
theorem pm_ {a b : Pg} (h : (((!(a.line == b.line) || !(a.good == b.good)) || !(a.text == b.text)) || ((a.frm.length : Int) != (b.frm.length : Int))) = false) : a.line = b.line ∧ a.good = b.good ∧ a.text = b.text ∧ a.frm.length = b.frm.length := by
 simp only [Bool.or_eq_false_iff, Bool.not_eq_false', beq_iff_eq, bne_eq_false_iff_eq] at h
 exact ⟨h.1.1.1, h.1.1.2, h.1.2, by omega⟩
end
end Go.Proofs.YtefmbmafdgedmaaGreatDoor
