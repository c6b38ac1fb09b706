/- What the library's functions answer: strings.Contains for a newline. Conditions: none. -/
import Derived.Test.YtpikbndepapbhabGreatDoorKw
import Derived.Lib.IndexAny
import Derived.Test.YtpikbndepapbhabGreatDoorK7
import Derived.Test.YtpikbndepapbhabGreatDoorKq
import Derived.Test.YtpikbndepapbhabGreatDoorKh
import Derived.Test.YtpikbndepapbhabGreatDoorK8
import Derived.Test.YtpikbndepapbhabGreatDoorK6
import Derived.Test.YtpikbndepapbhabGreatDoorKo
set_option linter.unusedVariables false
set_option linter.unusedSimpArgs false
namespace Go.Proofs.YtpikbndepapbhabGreatDoor
section
open Go.RowKit
set_option maxRecDepth 100000
def kz_ (s : Str) : Bool := s.contains 10
theorem ags_ (s : Str) : ACall En 140 [.s s, .s [10]] [] [.b (kz_ s)] [] := by
 refine hv_ (fn := Tryz.f140) Tryz.func140 rfl rfl fun S w xs hx _ _ => ?_
 simp only [VRs, VR] at hx
 obtain ⟨x, r, e1, rfl, y, q, e2, rfl, rfl⟩ := hx
 subst e2
 obtain rfl : xs = #[.string ⟨s.toArray⟩, .string ⟨[10].toArray⟩] := by apply Array.ext'; simpa using e1
 refine (Tryz.strings_Contains_one ⟨s.toArray⟩ 10 w).mono ?_
 rintro e w' ⟨rfl, rfl⟩
 refine ⟨[_], rfl, Below.refl _ _, .cons ?_ .nil⟩
 simp only [VR, kz_]
 rw [Lib.contains_iff_indexByte]
end
section
set_option maxRecDepth 100000
set_option maxHeartbeats 4000000
theorem zh_ : ACall En 143 [.sl false []] [] [.ow 0 1 0 0] [⟨3, 1, []⟩] := by
 refine ak_ (fn := Tryz.f143) [17] Tryz.func143 rfl rfl (by simp) fun C => ?_
 rw [aw_]
 simp only [Tryz.ntmps143, T7_, List.length_nil, Nat.reduceAdd, Nat.reduceSub, List.replicate_succ, List.replicate_zero, List.cons_append, List.nil_append, bk_]
 refine .seq (.rgn [] (by simp only [go_sem, seval]; rfl) ?_ ?_)
 ·first | trivial | simp
 refine .seq (.seq (.rgnS [4] [nilO En] (by simp only [go_sem, seval]; rfl) ?_ ?_))
 ·first | trivial | simp
 refine .condQ (by simp only [go_sem, seval] <;> rfl) (by simp only [go_sem, seval]) ?_ ?_
 ·refine .seq (.rgn [] (by simp only [go_sem, seval]; rfl) ?_ ?_)
  ·first | trivial | simp
  refine .can (Can.ownSlot 2 17 3 1 (by simp only [go_sem, seval] <;> rfl) (by simp only [go_sem, seval]) (by simp only [go_sem, seval] <;> rfl)) ?_
  refine .ret ⟨.inr rfl, ?_⟩
  exact Out.mem' (by simp only [Tryz.results143]; rfl) (by simp only [av_, a5_, go_sem, seval]) (by simp only [a2_, rns, rn, go_sem, seval] <;> (simp)) (by simp) rfl (by decide) (by simp only [go_sem, seval]) (by simp only [ao_, go_sem, seval]) (by simp only [aj_, go_sem, seval] <;> (simp))
 ·refine .skip (.seq (.rgn [] (by simp only [go_sem, seval]; rfl) ?_ ?_))
  ·first | trivial | simp
  refine .ret ⟨.inr rfl, ?_⟩
  exact Out.mem' (by simp only [Tryz.results143]; rfl) (by simp only [av_, a5_, go_sem, seval]) (by simp only [a2_, rns, rn, go_sem, seval] <;> (simp)) (by simp) rfl (by decide) (by simp only [go_sem, seval]) (by simp only [ao_, go_sem, seval]) (by simp only [aj_, go_sem, seval] <;> (simp))
theorem aaf_ (e : Int) (r : List Int) (hl : r.length < 1099511627776) : ACall En 143 [.sl false (inR (e :: r))] [] [.ow 0 1 0 (r.length + 1)] [⟨3, 1, inR (e :: r)⟩] := by
 refine ak_ (fn := Tryz.f143) [17] Tryz.func143 rfl rfl (by simp) fun C => ?_
 rw [aw_]
 simp only [Tryz.ntmps143, T7_, List.length_nil, Nat.reduceAdd, Nat.reduceSub, List.replicate_succ, List.replicate_zero, List.cons_append, List.nil_append, bk_]
 refine .seq (.rgn [] (by simp only [go_sem, seval, ab_, ad_, ap_, b3_, cd_, V.pure]; rfl) ?_ ?_)
 ·first | trivial | simp
 refine .seq (.seq (.rgnS [4] [nilO En] (by simp only [go_sem, seval, ab_, ad_, ap_, b3_, cd_, V.pure]; rfl) ?_ ?_))
 ·first | trivial | simp
 refine .condB (by simp only [go_sem, seval, ab_, ad_, ap_, b3_, cd_, V.pure]; rfl) (by simp only [go_sem, seval, ab_, ad_, ap_, b3_, cd_, V.pure]) (fun h4 => ?_) (fun h4 => ?_)
 ·exact absurd h4 (by simp)
 ·refine .skip (.seq (.rgn [] (by simp only [go_sem, seval, ab_, ad_, ap_, b3_, cd_, V.pure]; rfl) ?_ ?_))
  ·have := ad_ r; simp [ap_, ui_]; omega
  refine .ret ⟨.inr rfl, ?_⟩
  exact Out.mem' (by simp only [Tryz.results143]; rfl) (by simp only [av_, a5_, go_sem, seval, ab_, ad_, ap_, b3_, cd_, V.pure]) (by simp only [a2_, rns, rn, go_sem, seval, ab_, ad_, ap_, b3_, cd_, V.pure] <;> (simp [ad_])) (by simp) rfl (by decide) (by simp only [go_sem, seval, ab_, ad_, ap_, b3_, cd_, V.pure]) (by simp only [ao_, go_sem, seval, ab_, ad_, ap_, b3_, cd_, V.pure]) (by simp only [aj_, go_sem, seval, ab_, ad_, ap_, b3_, cd_, V.pure] <;> (simp [ap_, b8_, ab_]))
theorem ae9_ (l : List Int) (hl : l.length < 1099511627776) : ACall En 143 [.sl false (inR l)] [] [.ow 0 1 0 l.length] [⟨3, 1, inR l⟩] := by
 cases l with
 | nil => simp only [inR]; exact zh_
 | cons e r => exact aaf_ e r (by simp at hl; omega)
theorem af7_ (l : List Int) (hl : l.length < 1099511627776) : ACall En 60 [.ow 0 1 0 l.length] [⟨3, 1, inR l⟩] [.ow 0 1 0 l.length] [⟨3, 1, inR l⟩] := by
 refine ak_ (fn := Tryz.f60) [0] Tryz.func60 rfl rfl (by simp) fun C => ?_
 rw [aw_]
 simp only [Tryz.ntmps60, T7_, List.length_nil, Nat.reduceAdd, Nat.reduceSub, List.replicate_succ, List.replicate_zero, List.cons_append, List.nil_append, bk_]
 refine .seq (.rgn [] (by simp only [go_sem, seval, ab_, ad_]; rfl) ?_ ?_)
 ·first | trivial | simp
 refine .seq (.rgn [] (by simp only [go_sem, seval, ab_, ad_]; rfl) ?_ ?_)
 ·first | trivial | simp
 refine .ret ⟨.inr rfl, ?_⟩
 exact Out.mem' (by simp only [Tryz.results60]; rfl) (by simp only [av_, a5_, go_sem, seval, ab_, ad_]) (by simp only [a2_, rns, rn, go_sem, seval, ab_, ad_] <;> (simp)) (by simp) rfl (by decide) (by simp only [go_sem, seval, ab_, ad_]) (by simp only [ao_, go_sem, seval, ab_, ad_]) (by simp only [aj_, go_sem, seval, ab_, ad_] <;> (simp [b8_, ab_]))
theorem uw_ (l : List Int) (hl : l.length < 1099511627776) : ACall En 88 [.sl false (inR l)] [] [.ow 0 1 0 l.length] [⟨3, 1, inR l⟩] := by
 refine ak_ (fn := Tryz.f88) [14] Tryz.func88 rfl rfl (by simp) fun C => ?_
 rw [aw_]
 simp only [Tryz.ntmps88, T7_, List.length_nil, Nat.reduceAdd, Nat.reduceSub, List.replicate_succ, List.replicate_zero, List.cons_append, List.nil_append, bk_]
 refine .seq (.rgn [] (by simp only [go_sem, seval, ab_, ad_, aj_, ao_, b8_]; rfl) ?_ ?_)
 ·(first | trivial | (simp; done) | (simp [b8_, ab_, bd_]; done))
 refine .seq (.rgn [br_ [] [14] (ae9_ l hl), br_ [14] [] (af7_ l hl)] (by simp only [go_sem, seval, ab_, ad_, aj_, ao_, b8_]; rfl) ?_ ?_)
 ·(first | trivial | (simp; done) | (simp [b8_, ab_, bd_]; done))
 refine .ret ⟨.inr rfl, ?_⟩
 exact Out.mem' (by simp only [Tryz.results88]; rfl) (by simp only [av_, a5_, go_sem, seval, ab_, ad_, aj_, ao_, b8_]) (by simp only [a2_, rns, rn, go_sem, seval, ab_, ad_, aj_, ao_, b8_] <;> (simp)) (by simp) rfl (by decide) (by simp only [go_sem, seval, ab_, ad_, aj_, ao_, b8_]) (by simp only [ao_, go_sem, seval, ab_, ad_, aj_, ao_, b8_]) (by simp only [aj_, go_sem, seval, ab_, ad_, aj_, ao_, b8_] <;> (simp [b8_, ab_]))
theorem aeu_ (l : List Int) (hl : l.length < 1099511627776) : ACall En 88 [.sl false (inR l)] [] [.sl false (inR l)] [] :=
 (uw_ l hl).frz1 (by simp [f5_, frz, ad_, T1_])
structure Pg where
 line : Str
 good : Bool
 text : Str
 frm : List Int
deriving DecidableEq
def Pg0 : Pg := ⟨[], false, [], []⟩
def pgC (p : Pg) : List V := [.s p.line, .b p.good, .s p.text, .sl false (inR p.frm)]
def pgR (l : List Pg) : List (List V) := l.map pgC
theorem al_ (l : List Pg) : (pgR l).length = l.length := by simp [pgR]
theorem ah_ : ∀ l : List Pg, b3_ (pgR l) = true
 | [] => rfl
 | p :: l => by
  show b3_ (pgC p :: pgR l) = true
  simp only [b3_, pgC, cd_, V.pure, ab_, ah_ l, Bool.and_true]
theorem ac7_ (p : Pg) : cd_ (pgC p) = true := by simp only [pgC, cd_, V.pure, ab_, Bool.and_true]
theorem dt_ {l : List Pg} {k : Nat} (h : k < l.length) : (pgR l).getD k [] = pgC (l.getD k Pg0) := by
 simp [pgR, T8_, T6_ h]
theorem ag_ (p : Pg) : pgC p = [.s p.line, .b p.good, .s p.text, .sl false (inR p.frm)] := rfl
def jo_ (s : Str) : Bool := tOk s && !kz_ s
theorem rh_ (s : Str) : kz_ s = decide (1 < (spl s).length) := by
 unfold kz_
 by_cases h : (10 : UInt8) ∈ s
 ·obtain ⟨a, b, rfl, ha⟩ := List.eq_append_cons_of_mem h
  rw [rv_ ha]
  have := List.length_pos_iff.2 (ai9_ b)
  simp; omega
 ·rw [p2_ h]; simpa using h
def fx_ (s : Str) : Pg := if jo_ s then (match ck_ s with | none => ⟨s, false, [], []⟩ | some x => ⟨s, true, emT x, emF x⟩) else Pg0
theorem of_ (s : Str) (hs : s.length ≤ 281474976710656) : ACall En 86 [.s s] [] [.b (jo_ s)] [] := by
 refine ak_ (fn := Tryz.f86) [] Tryz.func86 rfl rfl (by simp) fun C => ?_
 rw [aw_]
 simp only [Tryz.ntmps86, T7_, List.length_nil, Nat.reduceAdd, Nat.reduceSub, List.replicate_succ, List.replicate_zero, List.cons_append, List.nil_append, bk_]
 refine .seq (.rgn [] (by simp only [go_sem, seval]; rfl) ?_ ?_)
 ·first | trivial | simp
 refine .seq (.rgn [a3_ (aaj_ s hs), a3_ (ags_ s)] (by simp only [go_sem, seval]; rfl) ?_ ?_)
 ·first | trivial | simp
 refine .ret ⟨.inr rfl, ?_⟩
 exact Out.plain (by simp only [Tryz.results86]; rfl) (by simp only [av_, a5_, go_sem, seval] <;> (split <;> rfl)) (by simp only [a2_, go_sem, seval] <;> (rfl)) (by simp only [go_sem, seval])
end
section
set_option maxRecDepth 100000
set_option maxHeartbeats 4000000
theorem kf_ (s : Str) : d0_ ((ck_ s).getD S0) = true := by
 cases h : ck_ s with
 | none => decide
 | some x =>
  by_cases hc : (b4_ s).isSome = true ∧ sok (rdS (cw_ s)) = true ∧ d2_ (rdS (cw_ s)) = s
  ·rw [ot_ hc.1 hc.2.1 hc.2.2] at h
   cases h; exact afk_ (r7_ s).1
  ·rw [p0_ hc] at h; cases h
theorem lf_ {s : Str} (h : (ck_ s).isSome = true) : sok ((ck_ s).getD S0) = true := by
 cases hx : ck_ s with
 | none => rw [hx] at h; cases h
 | some x => exact (h8_.1 hx).1
theorem n5_ {s : Str} (h : jo_ s = false) : fx_ s = Pg0 := by unfold fx_; rw [h]; rfl
theorem i1_ {s : Str} (h : jo_ s = true) (h2 : (ck_ s).isSome = false) : fx_ s = ⟨s, false, [], []⟩ := by
 unfold fx_; rw [h]
 cases hx : ck_ s with
 | none => rfl
 | some x => rw [hx] at h2; cases h2
theorem ln_ {s : Str} (h : jo_ s = true) (h2 : (ck_ s).isSome = true) : fx_ s = ⟨s, true, emT ((ck_ s).getD S0), emF ((ck_ s).getD S0)⟩ := by
 unfold fx_; rw [h]
 cases hx : ck_ s with
 | none => rw [hx] at h2; cases h2
 | some x => rfl
theorem al3_ {s : Sl} (h : sok s = true) : (emF s).length = (bw (bof s)).length := by
 have q := gf_ (c2_ h)
 unfold emF; rw [if_pos h, ← sr_ (c2_ h), ff_]
 rw [← q.2, List.length_map]
theorem emFL {s : Sl} (h : sok s = true) : (emF s).length < 1000000 := by rw [al3_ h]; have := (od_ (gv_ (c2_ h))).1; omega
theorem s5_ (s : Str) : (!tOk s || decide (((spl s).length : Int) > 1)) = !jo_ s := by
 unfold jo_; rw [rh_, Bool.not_and, Bool.not_not]; congr 1; exact decide_eq_decide.2 (by omega)
theorem l8_ (s : Str) (hs : s.length ≤ 281474976710656) : ACall En 33 [.s s] [] [.ag (pgC (fx_ s))] [] := by
 have X1 := kf_ s
 have X2 := @lf_ s
 have P1 := @n5_ s
 have P2 := @i1_ s
 have P3 := @ln_ s
 have R := is_ s hs
 generalize (ck_ s).getD S0 = x at *
 generalize (ck_ s).isSome = ok at *
 refine ak_ (fn := Tryz.f33) [] Tryz.func33 rfl rfl (by simp) fun C => ?_
 rw [aw_]
 simp only [Tryz.ntmps33, T7_, List.length_nil, Nat.reduceAdd, Nat.reduceSub, List.replicate_succ, List.replicate_zero, List.cons_append, List.nil_append, bk_]
 refine .seq (.rgn [] (by simp only [go_sem, seval, ai_, ab_, ag_]; rfl) ?_ ?_)
 ·(first | trivial | (simp; done) | (simpa using h17) | exact ⟨by simpa using h17, rfl⟩)
 refine .seq (.seq (.rgn [a3_ (of_ s hs)] (by simp only [go_sem, seval, ai_, ab_, ag_]; rfl) ?_ ?_))
 ·(first | trivial | (simp; done) | (simpa using h17) | exact ⟨by simpa using h17, rfl⟩)
 refine .condB (by simp only [go_sem, seval, ai_, ab_, ag_]; rfl) (by simp only [go_sem, seval, ai_, ab_, ag_]) (fun h9 => ?_) (fun h9 => ?_)
 ·refine .seq (.rgn [] (by simp only [go_sem, seval, ai_, ab_, ag_]; rfl) ?_ ?_)
  ·(first | trivial | (simp; done) | (simpa using h17) | exact ⟨by simpa using h17, rfl⟩)
  refine .ret ⟨.inr rfl, ?_⟩
  exact Out.plainL (by simp only [Tryz.results33]; rfl) (by simp only [av_, a5_, go_sem, seval, ai_, ab_, ag_] <;> (split <;> rfl)) (by simp only [a2_, go_sem, seval, ai_, ab_, ag_] <;> (rw [P1 (by simpa using h9)]; simp [Pg0, les, leV, ler, inR])) (by simp only [go_sem, seval, ai_, ab_, ag_])
 ·refine .skip (.seq (.rgn [a3_ R] (by simp only [go_sem, seval, ai_, ab_, ag_]; rfl) ?_ ?_))
  ·(first | trivial | (simp; done) | (simpa using h17) | exact ⟨by simpa using h17, rfl⟩)
  refine .seq (.seq (.rgn [] (by simp only [go_sem, seval, ai_, ab_, ag_]; rfl) ?_ ?_))
  ·(first | trivial | (simp; done) | (simpa using h17) | exact ⟨by simpa using h17, rfl⟩)
  refine .condB (by simp only [go_sem, seval, ai_, ab_, ag_]; rfl) (by simp only [go_sem, seval, ai_, ab_, ag_]) (fun h17 => ?_) (fun h17 => ?_)
  ·refine .seq (.rgn [] (by simp only [go_sem, seval, ai_, ab_, ag_]; rfl) ?_ ?_)
   ·(first | trivial | (simp; done) | (simpa using h17) | exact ⟨by simpa using h17, rfl⟩)
   refine .ret ⟨.inr rfl, ?_⟩
   exact Out.plainL (by simp only [Tryz.results33]; rfl) (by simp only [av_, a5_, go_sem, seval, ai_, ab_, ag_] <;> (split <;> rfl)) (by simp only [a2_, go_sem, seval, ai_, ab_, ag_] <;> (rw [P2 (by simpa using h9) (by simpa using h17)]; simp [les, leV, ler, inR])) (by simp only [go_sem, seval, ai_, ab_, ag_])
  ·refine .skip (.seq (.rgn [by_ (ok = true) (fun h => ady_ x (X2 h) X1)] (by simp only [go_sem, seval, ai_, ab_, ag_]; rfl) ?_ ?_))
   ·(first | trivial | (simp; done) | (simpa using h17) | exact ⟨by simpa using h17, rfl⟩)
   refine .seq (.rgn [by_ (ok = true) (fun h => aeu_ (emF x) (by have := emFL (X2 h); omega))] (by simp only [go_sem, seval, ai_, ab_, ag_]; rfl) ?_ ?_)
   ·(first | trivial | (simp; done) | (simpa using h17) | exact ⟨by simpa using h17, rfl⟩)
   refine .ret ⟨.inr rfl, ?_⟩
   exact Out.plainL (by simp only [Tryz.results33]; rfl) (by simp only [av_, a5_, go_sem, seval, ai_, ab_, ag_] <;> (split <;> rfl)) (by simp only [a2_, go_sem, seval, ai_, ab_, ag_] <;> (rw [P3 (by simpa using h9) (by simpa using h17)]; simp [les, leV, ler, bd_])) (by simp only [go_sem, seval, ai_, ab_, ag_])
theorem l9_ (s : Str) (hs : s.length ≤ 281474976710656) : ACall En 32 [.s s] [] [.ag (pgC (fx_ s))] [] := by
 have X1 := kf_ s
 have X2 := @lf_ s
 have P1 := @n5_ s
 have P2 := @i1_ s
 have P3 := @ln_ s
 have R := ve_ s hs
 have hn := rh_ s
 have hI : jo_ s = (tOk s && !kz_ s) := rfl
 generalize (ck_ s).getD S0 = x at *
 generalize (ck_ s).isSome = ok at *
 refine ak_ (fn := Tryz.f32) [] Tryz.func32 rfl rfl (by simp) fun C => ?_
 rw [aw_]
 simp only [Tryz.ntmps32, T7_, List.length_nil, Nat.reduceAdd, Nat.reduceSub, List.replicate_succ, List.replicate_zero, List.cons_append, List.nil_append, bk_]
 refine .seq (.rgn [] (by simp only [go_sem, seval, ai_, ab_, ag_, ac_, aa_]; rfl) ?_ ?_)
 ·first | trivial | simp
 refine .seq (.seq (.rgn [a3_ (rd_ s hs), by_ (tOk s = true) (fun h => vd_ s (x3_ h))] (by simp only [go_sem, seval, ai_, ab_, ag_, ac_, aa_]; rfl) ?_ ?_))
 ·first | trivial | simp
 refine .condB (by simp only [go_sem, seval, ai_, ab_, ag_, ac_, aa_]; rfl) (by simp only [go_sem, seval, ai_, ab_, ag_, ac_, aa_]) (fun h15 => ?_) (fun h15 => ?_)
 ·refine .seq (.rgn [] (by simp only [go_sem, seval, ai_, ab_, ag_, ac_, aa_]; rfl) ?_ ?_)
  ·first | trivial | simp
  refine .ret ⟨.inr rfl, ?_⟩
  exact Out.plainL (by simp only [Tryz.results32]; rfl) (by simp only [av_, a5_, go_sem, seval, ai_, ab_, ag_, ac_, aa_] <;> (split <;> rfl)) (by simp only [a2_, go_sem, seval, ai_, ab_, ag_, ac_, aa_] <;> (rw [s5_] at h15; rw [P1 (by simpa using h15)]; simp [Pg0, les, leV, ler, inR])) (by simp only [go_sem, seval, ai_, ab_, ag_, ac_, aa_])
 ·refine .skip (.seq (.rgn [a3_ R] (by simp only [go_sem, seval, ai_, ab_, ag_, ac_, aa_]; rfl) ?_ ?_))
  ·first | trivial | simp
  refine .seq (.seq (.rgn [] (by simp only [go_sem, seval, ai_, ab_, ag_, ac_, aa_]; rfl) ?_ ?_))
  ·first | trivial | simp
  refine .condB (by simp only [go_sem, seval, ai_, ab_, ag_, ac_, aa_]; rfl) (by simp only [go_sem, seval, ai_, ab_, ag_, ac_, aa_]) (fun h23 => ?_) (fun h23 => ?_)
  ·refine .seq (.rgn [] (by simp only [go_sem, seval, ai_, ab_, ag_, ac_, aa_]; rfl) ?_ ?_)
   ·first | trivial | simp
   refine .ret ⟨.inr rfl, ?_⟩
   exact Out.plainL (by simp only [Tryz.results32]; rfl) (by simp only [av_, a5_, go_sem, seval, ai_, ab_, ag_, ac_, aa_] <;> (split <;> rfl)) (by simp only [a2_, go_sem, seval, ai_, ab_, ag_, ac_, aa_] <;> (rw [s5_] at h15; rw [P2 (by simpa using h15) (by simpa using h23)]; simp [les, leV, ler, inR])) (by simp only [go_sem, seval, ai_, ab_, ag_, ac_, aa_])
  ·refine .skip (.seq (.rgn [a3_ (uy_ x X1)] (by simp only [go_sem, seval, ai_, ab_, ag_, ac_, aa_]; rfl) ?_ ?_))
   ·first | trivial | simp
   refine .seq (.rgn [] (by simp only [go_sem, seval, ai_, ab_, ag_, ac_, aa_]; rfl) ?_ ?_)
   ·first | trivial | simp
   refine .ret ⟨.inr rfl, ?_⟩
   exact Out.plainL (by simp only [Tryz.results32]; rfl) (by simp only [av_, a5_, go_sem, seval, ai_, ab_, ag_, ac_, aa_] <;> (split <;> rfl)) (by simp only [a2_, go_sem, seval, ai_, ab_, ag_, ac_, aa_] <;> (rw [s5_] at h15; rw [P3 (by simpa using h15) (by simpa using h23)]; simp [les, leV, ler, bd_])) (by simp only [go_sem, seval, ai_, ab_, ag_, ac_, aa_])
theorem ct_ {a b : Pg} (h : (((!(a.line == b.line) || !(a.good == b.good)) || !(a.text == b.text)) || ((a.frm.length : Int) != (b.frm.length : Int))) = false) : a.line = b.line ∧ a.good = b.good ∧ a.text = b.text ∧ a.frm.length = b.frm.length := by
 simp only [Bool.or_eq_false_iff, Bool.not_eq_false', beq_iff_eq, bne_eq_false_iff_eq] at h
 exact ⟨h.1.1.1, h.1.1.2, h.1.2, by omega⟩
theorem ajp_ {a b : Pg} (h : a.line = b.line ∧ a.good = b.good ∧ a.text = b.text ∧ a.frm.length = b.frm.length) {j : Nat} (hj : a.frm.length ≤ j) (hf : a.frm.take j = b.frm.take j) : a = b := by
 obtain ⟨l, g, t, f⟩ := a
 obtain ⟨l', g', t', f'⟩ := b
 obtain ⟨rfl, rfl, rfl, hl⟩ := h
 dsimp only at hl hj hf
 rw [T1_ hj, T1_ (by omega)] at hf
 rw [hf]
theorem ch_ {α β : Type} {a : List α} {b : List β} (h : ((a.length : Int) != (b.length : Int)) = false) : a.length = b.length := by
 rw [bne_eq_false_iff_eq] at h; omega
theorem ab3_ (a b : List Pg) (ha : a.length ≤ 1000000) (hb : b.length ≤ 1000000) (hA : ∀ p ∈ a, p.frm.length ≤ 4000000) : ACall En 38 [.sl false (pgR a), .sl false (pgR b)] [] [.b (decide (a = b))] [] := by
 refine ak_ (fn := Tryz.f38) [] Tryz.func38 rfl rfl (by simp) fun C => ?_
 rw [aw_]
 simp only [Tryz.ntmps38, T7_, List.length_nil, Nat.reduceAdd, Nat.reduceSub, List.replicate_succ, List.replicate_zero, List.cons_append, List.nil_append, bk_]
 refine .seq (.rgn [] (by simp only [go_sem, seval, al_, ah_, ad_, ab_, ag_]; rfl) ?_ ?_)
 ·(first | trivial | (simp; done) | (have q := ch_ h11; simp only [T3_] at h15; and_intros <;> first | omega | exact fun h => ⟨h, by omega, by omega⟩ | exact fun h => by rw [h]; rfl) | (have q := ch_ h11; have q2 := (ct_ h69).2.2.2; simp only [T3_] at h15 h77; and_intros <;> omega))
 refine .seq (.seq (.rgn [] (by simp only [go_sem, seval, al_, ah_, ad_, ab_, ag_]; rfl) ?_ ?_))
 ·(first | trivial | (simp; done) | (have q := ch_ h11; simp only [T3_] at h15; and_intros <;> first | omega | exact fun h => ⟨h, by omega, by omega⟩ | exact fun h => by rw [h]; rfl) | (have q := ch_ h11; have q2 := (ct_ h69).2.2.2; simp only [T3_] at h15 h77; and_intros <;> omega))
 refine .condB (by simp only [go_sem, seval, al_, ah_, ad_, ab_, ag_]; rfl) (by simp only [go_sem, seval, al_, ah_, ad_, ab_, ag_]) (fun h11 => ?_) (fun h11 => ?_)
 ·refine .seq (.rgn [] (by simp only [go_sem, seval, al_, ah_, ad_, ab_, ag_]; rfl) ?_ ?_)
  ·(first | trivial | (simp; done) | (have q := ch_ h11; simp only [T3_] at h15; and_intros <;> first | omega | exact fun h => ⟨h, by omega, by omega⟩ | exact fun h => by rw [h]; rfl) | (have q := ch_ h11; have q2 := (ct_ h69).2.2.2; simp only [T3_] at h15 h77; and_intros <;> omega))
  refine .ret ⟨.inr rfl, ?_⟩
  exact Out.plain (by simp only [Tryz.results38]; rfl) (by simp only [av_, a5_, go_sem, seval, al_, ah_, ad_, ab_, ag_] <;> (split <;> rfl)) (by simp only [a2_, go_sem, seval, al_, ah_, ad_, ab_, ag_] <;> (rw [decide_eq_false]; rintro rfl; simp at h11)) (by simp only [go_sem, seval, al_, ah_, ad_, ab_, ag_])
 ·refine .skip (.seq (.seq (.rgn [] (by simp only [go_sem, seval, al_, ah_, ad_, ab_, ag_]; rfl) ?_ ?_)))
  ·(first | trivial | (simp; done) | (have q := ch_ h11; simp only [T3_] at h15; and_intros <;> first | omega | exact fun h => ⟨h, by omega, by omega⟩ | exact fun h => by rw [h]; rfl) | (have q := ch_ h11; have q2 := (ct_ h69).2.2.2; simp only [T3_] at h15 h77; and_intros <;> omega))
  refine .block (.loopK (fun k : Nat => ⟨[.sl false (pgR a), .sl false (pgR b), .no, .no, .no, .i .i64 k, .no, .no, .no, .no, .no, .no, .no, .no, .no, .no, .no, .no, .no, .no, .no, .no, .no, .no, .no, .no, .no, .no, .no, .no, .no, .no, .no, .no, .no, .no, .no, .no, .no, .no, .no, .no, .no, .no, .no, .no, .no, .no, .no, .no, .no, .no, .no, .no, .no, .no, .no, .no, .no, .no, .no, .no, .no, .no, .no, .no, .no, .no, .no, .no, .no, .no, .no, .no, .no, .no, .no, .no, .no, .no, .no, .no, .no, .no, .no, .no, .no, .no, .no, .no, .no, .no, .no, .no, .no, .no, .no], be_ [], us []⟩) (fun k : Nat => k ≤ a.length ∧ a.take k = b.take k) (fun k : Nat => a.length - k) (0) ?_ ?_ (fun k hI => ?_))
  ·exact ⟨Nat.zero_le _, rfl⟩
  ·exact Can.weak (Weak.lit (by simp only [go_sem, seval, al_, ah_, ad_, ab_, ag_, as_, leV, aq_, ar_, V.inn, us, T9_, Ta_] <;> ((try simp))) (by simp only [go_sem, seval, al_, ah_, ad_, ab_, ag_, as_, leV, aq_, ar_, V.inn, us, T9_, Ta_]) (by simp only [go_sem, seval, al_, ah_, ad_, ab_, ag_, as_, leV, aq_, ar_, V.inn, us, T9_, Ta_]))
  refine .seq (.seq (.rgn [] (by simp only [go_sem, seval, al_, ah_, ad_, ab_, ag_]; rfl) ?_ ?_))
  ·(first | trivial | (simp; done) | (have q := ch_ h11; simp only [T3_] at h15; and_intros <;> first | omega | exact fun h => ⟨h, by omega, by omega⟩ | exact fun h => by rw [h]; rfl) | (have q := ch_ h11; have q2 := (ct_ h69).2.2.2; simp only [T3_] at h15 h77; and_intros <;> omega))
  refine .condB (by simp only [go_sem, seval, al_, ah_, ad_, ab_, ag_]; rfl) (by simp only [go_sem, seval, al_, ah_, ad_, ab_, ag_]) (fun h15 => ?_) (fun h15 => ?_)
  ·refine .skip (.seq (.block (.seq (.seq (.rgnD [] enM (by simp only [go_sem, seval, al_, ah_, ad_, ab_, ag_, dt_ (show k < a.length by simpa using h15), dt_ (show k < b.length by have q := ch_ h11; simp only [T3_] at h15; omega)]; rfl) (by rfl) ?_ ?_)))))
   ·(first | trivial | (simp; done) | (have q := ch_ h11; simp only [T3_] at h15; and_intros <;> first | omega | exact fun h => ⟨h, by omega, by omega⟩ | exact fun h => by rw [h]; rfl) | (have q := ch_ h11; have q2 := (ct_ h69).2.2.2; simp only [T3_] at h15 h77; and_intros <;> omega))
   refine .condB (by simp only [go_sem, seval, al_, ah_, ad_, ab_, ag_]; rfl) (by simp only [go_sem, seval, al_, ah_, ad_, ab_, ag_]) (fun h69 => ?_) (fun h69 => ?_)
   ·refine .seq (.rgn [] (by simp only [go_sem, seval, al_, ah_, ad_, ab_, ag_]; rfl) ?_ ?_)
    ·(first | trivial | (simp; done) | (have q := ch_ h11; simp only [T3_] at h15; and_intros <;> first | omega | exact fun h => ⟨h, by omega, by omega⟩ | exact fun h => by rw [h]; rfl) | (have q := ch_ h11; have q2 := (ct_ h69).2.2.2; simp only [T3_] at h15 h77; and_intros <;> omega))
    refine .ret ⟨.inr rfl, ?_⟩
    exact Out.plain (by simp only [Tryz.results38]; rfl) (by simp only [av_, a5_, go_sem, seval, al_, ah_, ad_, ab_, ag_] <;> (split <;> rfl)) (by simp only [a2_, go_sem, seval, al_, ah_, ad_, ab_, ag_] <;> (rw [decide_eq_false]; rintro rfl; simp at h69)) (by simp only [go_sem, seval, al_, ah_, ad_, ab_, ag_])
   ·refine .skip (.seq (.rgn [] (by simp only [go_sem, seval, al_, ah_, ad_, ab_, ag_]; rfl) ?_ ?_))
    ·(first | trivial | (simp; done) | (have q := ch_ h11; simp only [T3_] at h15; and_intros <;> first | omega | exact fun h => ⟨h, by omega, by omega⟩ | exact fun h => by rw [h]; rfl) | (have q := ch_ h11; have q2 := (ct_ h69).2.2.2; simp only [T3_] at h15 h77; and_intros <;> omega))
    refine .block (.loopK (fun j : Nat => ⟨[.sl false (pgR a), .sl false (pgR b), .no, .no, .no, .i .i64 k, .i .i64 j, .no, .no, .no, .no, .no, .no, .no, .no, .no, .no, .no, .no, .no, .no, .no, .no, .no, .no, .no, .no, .no, .no, .no, .no, .no, .no, .no, .no, .no, .no, .no, .no, .no, .no, .no, .no, .no, .no, .no, .no, .no, .no, .no, .no, .no, .no, .no, .no, .no, .no, .no, .no, .no, .no, .no, .no, .no, .no, .no, .no, .no, .no, .no, .no, .no, .no, .no, .no, .no, .no, .no, .no, .no, .no, .no, .no, .no, .no, .no, .no, .no, .no, .no, .no, .no, .no, .no, .no, .no, .no], be_ [], us []⟩) (fun j : Nat => k ≤ a.length ∧ a.take k = b.take k ∧ j ≤ (a.getD k Pg0).frm.length ∧ (a.getD k Pg0).frm.take j = (b.getD k Pg0).frm.take j) (fun j : Nat => (a.getD k Pg0).frm.length - j) (0) ?_ ?_ (fun j hI => ?_))
    ·exact ⟨hI.1, hI.2, Nat.zero_le _, rfl⟩
    ·exact Can.weak (Weak.lit (by simp only [go_sem, seval, al_, ah_, ad_, ab_, ag_, as_, leV, aq_, ar_, V.inn, us, T9_, Ta_] <;> ((try simp))) (by simp only [go_sem, seval, al_, ah_, ad_, ab_, ag_, as_, leV, aq_, ar_, V.inn, us, T9_, Ta_]) (by simp only [go_sem, seval, al_, ah_, ad_, ab_, ag_, as_, leV, aq_, ar_, V.inn, us, T9_, Ta_]))
    refine .seq (.seq (.rgn [] (by simp only [go_sem, seval, al_, ah_, ad_, ab_, ag_, dt_ (show k < a.length by simpa using h15)]; rfl) ?_ ?_))
    ·(first | trivial | (simp; done) | (have q := ch_ h11; simp only [T3_] at h15; and_intros <;> first | omega | exact fun h => ⟨h, by omega, by omega⟩ | exact fun h => by rw [h]; rfl) | (have q := ch_ h11; have q2 := (ct_ h69).2.2.2; simp only [T3_] at h15 h77; and_intros <;> omega))
    refine .condB (by simp only [go_sem, seval, al_, ah_, ad_, ab_, ag_]; rfl) (by simp only [go_sem, seval, al_, ah_, ad_, ab_, ag_]) (fun h77 => ?_) (fun h77 => ?_)
    ·refine .skip (.seq (.block (.seq (.rgnD [] enM (by simp only [go_sem, seval, al_, ah_, ad_, ab_, ag_, dt_ (show k < a.length by simpa using h15), dt_ (show k < b.length by have q := ch_ h11; simp only [T3_] at h15; omega), dj_ (show j < (a.getD k Pg0).frm.length by simpa using h77), dj_ (show j < (b.getD k Pg0).frm.length by have q := (ct_ h69).2.2.2; simp only [T3_] at h77; omega)]; rfl) (by rfl) ?_ ?_))))
     ·(first | trivial | (simp; done) | (have q := ch_ h11; simp only [T3_] at h15; and_intros <;> first | omega | exact fun h => ⟨h, by omega, by omega⟩ | exact fun h => by rw [h]; rfl) | (have q := ch_ h11; have q2 := (ct_ h69).2.2.2; simp only [T3_] at h15 h77; and_intros <;> omega))
     refine .condB (by simp only [go_sem, seval, al_, ah_, ad_, ab_, ag_]; rfl) (by simp only [go_sem, seval, al_, ah_, ad_, ab_, ag_]) (fun h96 => ?_) (fun h96 => ?_)
     ·refine .seq (.rgn [] (by simp only [go_sem, seval, al_, ah_, ad_, ab_, ag_]; rfl) ?_ ?_)
      ·(first | trivial | (simp; done) | (have q := ch_ h11; simp only [T3_] at h15; and_intros <;> first | omega | exact fun h => ⟨h, by omega, by omega⟩ | exact fun h => by rw [h]; rfl) | (have q := ch_ h11; have q2 := (ct_ h69).2.2.2; simp only [T3_] at h15 h77; and_intros <;> omega))
      refine .ret ⟨.inr rfl, ?_⟩
      exact Out.plain (by simp only [Tryz.results38]; rfl) (by simp only [av_, a5_, go_sem, seval, al_, ah_, ad_, ab_, ag_] <;> (split <;> rfl)) (by simp only [a2_, go_sem, seval, al_, ah_, ad_, ab_, ag_] <;> (rw [decide_eq_false]; rintro rfl; simp at h96)) (by simp only [go_sem, seval, al_, ah_, ad_, ab_, ag_])
     ·refine .skip (.rgn [] (by simp only [go_sem, seval, al_, ah_, ad_, ab_, ag_]; rfl) ?_ ?_)
      ·(first | trivial | (simp; done) | (have q := ch_ h11; simp only [T3_] at h15; and_intros <;> first | omega | exact fun h => ⟨h, by omega, by omega⟩ | exact fun h => by rw [h]; rfl) | (have q := ch_ h11; have q2 := (ct_ h69).2.2.2; simp only [T3_] at h15 h77; and_intros <;> omega))
      refine Exists.intro (j + 1) ⟨?_, ?_, ?_⟩
      ·have q2 := (ct_ h69).2.2.2; simp only [T3_] at h77; exact ⟨hI.1, hI.2.1, by omega, h7_ (d := 0) (by omega) (by omega) hI.2.2.2 (bne_eq_false_iff_eq.1 h96)⟩
      ·simp only [T3_] at h77; omega
      exact Can.weak (Weak.lit (by simp only [go_sem, seval, al_, ah_, ad_, ab_, ag_, as_, leV, aq_, ar_, V.inn, us, T9_, Ta_] <;> (simp only [T3_] at h77 h15; have := hA _ (bo_ (d := Pg0) (show k < a.length by omega)); exact bg_ (n := ((j + 1 : Nat) : Int)) (by omega) (by omega))) (by simp only [go_sem, seval, al_, ah_, ad_, ab_, ag_, as_, leV, aq_, ar_, V.inn, us, T9_, Ta_]) (by simp only [go_sem, seval, al_, ah_, ad_, ab_, ag_, as_, leV, aq_, ar_, V.inn, us, T9_, Ta_]))
    ·refine .exit (.rgn [] (by simp only [go_sem, seval, al_, ah_, ad_, ab_, ag_]; rfl) ?_ ?_)
     ·(first | trivial | (simp; done) | (have q := ch_ h11; simp only [T3_] at h15; and_intros <;> first | omega | exact fun h => ⟨h, by omega, by omega⟩ | exact fun h => by rw [h]; rfl) | (have q := ch_ h11; have q2 := (ct_ h69).2.2.2; simp only [T3_] at h15 h77; and_intros <;> omega))
     refine Exists.intro (k + 1) ⟨?_, ?_, ?_⟩
     ·have q := ch_ h11; simp only [T3_] at h15; simp only [T4_] at h77; exact ⟨by omega, h7_ (d := Pg0) (by omega) (by omega) hI.2.1 (ajp_ (ct_ h69) (by omega) hI.2.2.2)⟩
     ·simp only [T3_] at h15; omega
     exact Can.weak (Weak.lit (by simp only [go_sem, seval, al_, ah_, ad_, ab_, ag_, as_, leV, aq_, ar_, V.inn, us, T9_, Ta_] <;> (simp only [T3_] at h15; exact bg_ (n := ((k + 1 : Nat) : Int)) (by omega) (by omega))) (by simp only [go_sem, seval, al_, ah_, ad_, ab_, ag_, as_, leV, aq_, ar_, V.inn, us, T9_, Ta_]) (by simp only [go_sem, seval, al_, ah_, ad_, ab_, ag_, as_, leV, aq_, ar_, V.inn, us, T9_, Ta_]))
  ·refine .exit (.seq (.rgn [] (by simp only [go_sem, seval, al_, ah_, ad_, ab_, ag_]; rfl) ?_ ?_))
   ·(first | trivial | (simp; done) | (have q := ch_ h11; simp only [T3_] at h15; and_intros <;> first | omega | exact fun h => ⟨h, by omega, by omega⟩ | exact fun h => by rw [h]; rfl) | (have q := ch_ h11; have q2 := (ct_ h69).2.2.2; simp only [T3_] at h15 h77; and_intros <;> omega))
   refine .ret ⟨.inr rfl, ?_⟩
   exact Out.plain (by simp only [Tryz.results38]; rfl) (by simp only [av_, a5_, go_sem, seval, al_, ah_, ad_, ab_, ag_] <;> (split <;> rfl)) (by simp only [a2_, go_sem, seval, al_, ah_, ad_, ab_, ag_] <;> (have q := ch_ h11; simp only [T4_] at h15; have e := hI.2; rw [T1_ (by omega), T1_ (by omega)] at e; rw [decide_eq_true e])) (by simp only [go_sem, seval, al_, ah_, ad_, ab_, ag_])
end
end Go.Proofs.YtpikbndepapbhabGreatDoor
