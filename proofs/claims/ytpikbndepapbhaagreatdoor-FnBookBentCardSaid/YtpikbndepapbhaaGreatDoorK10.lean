/- What the library's functions answer: strings.Contains for a newline. Conditions: none. -/
import Derived.Test.YtpikbndepapbhaaGreatDoorKw
import Derived.Lib.IndexAny
import Derived.Test.YtpikbndepapbhaaGreatDoorK7
import Derived.Test.YtpikbndepapbhaaGreatDoorKq
import Derived.Test.YtpikbndepapbhaaGreatDoorKh
import Derived.Test.YtpikbndepapbhaaGreatDoorK8
import Derived.Test.YtpikbndepapbhaaGreatDoorK6
import Derived.Test.YtpikbndepapbhaaGreatDoorKo
set_option linter.unusedVariables false
set_option linter.unusedSimpArgs false
namespace Go.Proofs.YtpikbndepapbhaaGreatDoor
section
open Go.RowKit
set_option maxRecDepth 100000
def m7_ (s : Str) : Bool := s.contains 10
theorem aik_ (s : Str) : ACall En 85 [.s s, .s [10]] [] [.b (m7_ s)] [] := by
 refine hg_ (fn := Tryz.f85) Tryz.func85 rfl rfl fun S w xs hx _ _ => ?_
 simp only [VRs, VR] at hx
 obtain ⟨x, r, e1, rfl, y, q, e2, rfl, rfl⟩ := hx
 subst e2
 obtain rfl : xs = #[.string ⟨s.toArray⟩, .string ⟨[10].toArray⟩] := by apply Array.ext'; simpa using e1
 refine (Tryz.strings_Contains_one ⟨s.toArray⟩ 10 w).mono ?_
 rintro e w' ⟨rfl, rfl⟩
 refine ⟨[_], rfl, Below.refl _ _, .cons ?_ .nil⟩
 simp only [VR, m7_]
 rw [Lib.contains_iff_indexByte]
end
section
set_option maxRecDepth 100000
set_option maxHeartbeats 4000000
theorem acm_ : ACall En 104 [.sl false []] [] [.ow 0 1 0 0] [⟨3, 1, []⟩] := by
 refine ak_ (fn := Tryz.f104) [17] Tryz.func104 rfl rfl (by simp) fun C => ?_
 rw [aw_]
 simp only [Tryz.ntmps104, T7_, List.length_nil, Nat.reduceAdd, Nat.reduceSub, List.replicate_succ, List.replicate_zero, List.cons_append, List.nil_append, bo_]
 refine .seq (.rgn [] (by simp only [go_sem, seval]; rfl) ?_ ?_)
 ·first | trivial | simp
 refine .seq (.seq (.rgnS [4] [nilO En] (by simp only [go_sem, seval]; rfl) ?_ ?_))
 ·first | trivial | simp
 refine .condQ (by simp only [go_sem, seval] <;> rfl) (by simp only [go_sem, seval]) ?_ ?_
 ·refine .seq (.rgn [] (by simp only [go_sem, seval]; rfl) ?_ ?_)
  ·first | trivial | simp
  refine .can (Can.ownSlot 2 17 3 1 (by simp only [go_sem, seval] <;> rfl) (by simp only [go_sem, seval]) (by simp only [go_sem, seval] <;> rfl)) ?_
  refine .ret ⟨.inr rfl, ?_⟩
  exact Out.mem' (by simp only [Tryz.results104]; rfl) (by simp only [ay_, a6_, go_sem, seval]) (by simp only [a5_, rns, rn, go_sem, seval] <;> (simp)) (by simp) rfl (by decide) (by simp only [go_sem, seval]) (by simp only [am_, go_sem, seval]) (by simp only [ah_, go_sem, seval] <;> (simp))
 ·refine .skip (.seq (.rgn [] (by simp only [go_sem, seval]; rfl) ?_ ?_))
  ·first | trivial | simp
  refine .ret ⟨.inr rfl, ?_⟩
  exact Out.mem' (by simp only [Tryz.results104]; rfl) (by simp only [ay_, a6_, go_sem, seval]) (by simp only [a5_, rns, rn, go_sem, seval] <;> (simp)) (by simp) rfl (by decide) (by simp only [go_sem, seval]) (by simp only [am_, go_sem, seval]) (by simp only [ah_, go_sem, seval] <;> (simp))
theorem adr_ (e : Int) (r : List Int) (hl : r.length < 1099511627776) : ACall En 104 [.sl false (inR (e :: r))] [] [.ow 0 1 0 (r.length + 1)] [⟨3, 1, inR (e :: r)⟩] := by
 refine ak_ (fn := Tryz.f104) [17] Tryz.func104 rfl rfl (by simp) fun C => ?_
 rw [aw_]
 simp only [Tryz.ntmps104, T7_, List.length_nil, Nat.reduceAdd, Nat.reduceSub, List.replicate_succ, List.replicate_zero, List.cons_append, List.nil_append, bo_]
 refine .seq (.rgn [] (by simp only [go_sem, seval, ac_, aj_, at_, b7_, cj_, V.pure]; rfl) ?_ ?_)
 ·first | trivial | simp
 refine .seq (.seq (.rgnS [4] [nilO En] (by simp only [go_sem, seval, ac_, aj_, at_, b7_, cj_, V.pure]; rfl) ?_ ?_))
 ·first | trivial | simp
 refine .condB (by simp only [go_sem, seval, ac_, aj_, at_, b7_, cj_, V.pure]; rfl) (by simp only [go_sem, seval, ac_, aj_, at_, b7_, cj_, V.pure]) (fun h4 => ?_) (fun h4 => ?_)
 ·exact absurd h4 (by simp)
 ·refine .skip (.seq (.rgn [] (by simp only [go_sem, seval, ac_, aj_, at_, b7_, cj_, V.pure]; rfl) ?_ ?_))
  ·have := aj_ r; simp [at_, v7_]; omega
  refine .ret ⟨.inr rfl, ?_⟩
  exact Out.mem' (by simp only [Tryz.results104]; rfl) (by simp only [ay_, a6_, go_sem, seval, ac_, aj_, at_, b7_, cj_, V.pure]) (by simp only [a5_, rns, rn, go_sem, seval, ac_, aj_, at_, b7_, cj_, V.pure] <;> (simp [aj_])) (by simp) rfl (by decide) (by simp only [go_sem, seval, ac_, aj_, at_, b7_, cj_, V.pure]) (by simp only [am_, go_sem, seval, ac_, aj_, at_, b7_, cj_, V.pure]) (by simp only [ah_, go_sem, seval, ac_, aj_, at_, b7_, cj_, V.pure] <;> (simp [at_, cd_, ac_]))
theorem aha_ (l : List Int) (hl : l.length < 1099511627776) : ACall En 104 [.sl false (inR l)] [] [.ow 0 1 0 l.length] [⟨3, 1, inR l⟩] := by
 cases l with
 | nil => simp only [inR]; exact acm_
 | cons e r => exact adr_ e r (by simp at hl; omega)
theorem aii_ (l : List Int) (hl : l.length < 1099511627776) : ACall En 48 [.ow 0 1 0 l.length] [⟨3, 1, inR l⟩] [.ow 0 1 0 l.length] [⟨3, 1, inR l⟩] := by
 refine ak_ (fn := Tryz.f48) [0] Tryz.func48 rfl rfl (by simp) fun C => ?_
 rw [aw_]
 simp only [Tryz.ntmps48, T7_, List.length_nil, Nat.reduceAdd, Nat.reduceSub, List.replicate_succ, List.replicate_zero, List.cons_append, List.nil_append, bo_]
 refine .seq (.rgn [] (by simp only [go_sem, seval, ac_, aj_]; rfl) ?_ ?_)
 ·first | trivial | simp
 refine .seq (.rgn [] (by simp only [go_sem, seval, ac_, aj_]; rfl) ?_ ?_)
 ·first | trivial | simp
 refine .ret ⟨.inr rfl, ?_⟩
 exact Out.mem' (by simp only [Tryz.results48]; rfl) (by simp only [ay_, a6_, go_sem, seval, ac_, aj_]) (by simp only [a5_, rns, rn, go_sem, seval, ac_, aj_] <;> (simp)) (by simp) rfl (by decide) (by simp only [go_sem, seval, ac_, aj_]) (by simp only [am_, go_sem, seval, ac_, aj_]) (by simp only [ah_, go_sem, seval, ac_, aj_] <;> (simp [cd_, ac_]))
theorem wd_ (l : List Int) (hl : l.length < 1099511627776) : ACall En 75 [.sl false (inR l)] [] [.ow 0 1 0 l.length] [⟨3, 1, inR l⟩] := by
 refine ak_ (fn := Tryz.f75) [14] Tryz.func75 rfl rfl (by simp) fun C => ?_
 rw [aw_]
 simp only [Tryz.ntmps75, T7_, List.length_nil, Nat.reduceAdd, Nat.reduceSub, List.replicate_succ, List.replicate_zero, List.cons_append, List.nil_append, bo_]
 refine .seq (.rgn [] (by simp only [go_sem, seval, ac_, aj_, ah_, am_, cd_]; rfl) ?_ ?_)
 ·(first | trivial | (simp; done) | (simp [cd_, ac_, a9_]; done))
 refine .seq (.rgn [bs_ [] [14] (aha_ l hl), bs_ [14] [] (aii_ l hl)] (by simp only [go_sem, seval, ac_, aj_, ah_, am_, cd_]; rfl) ?_ ?_)
 ·(first | trivial | (simp; done) | (simp [cd_, ac_, a9_]; done))
 refine .ret ⟨.inr rfl, ?_⟩
 exact Out.mem' (by simp only [Tryz.results75]; rfl) (by simp only [ay_, a6_, go_sem, seval, ac_, aj_, ah_, am_, cd_]) (by simp only [a5_, rns, rn, go_sem, seval, ac_, aj_, ah_, am_, cd_] <;> (simp)) (by simp) rfl (by decide) (by simp only [go_sem, seval, ac_, aj_, ah_, am_, cd_]) (by simp only [am_, go_sem, seval, ac_, aj_, ah_, am_, cd_]) (by simp only [ah_, go_sem, seval, ac_, aj_, ah_, am_, cd_] <;> (simp [cd_, ac_]))
theorem ahj_ (l : List Int) (hl : l.length < 1099511627776) : ACall En 75 [.sl false (inR l)] [] [.sl false (inR l)] [] :=
 (wd_ l hl).frz1 (by simp [fj_, frz, aj_, T1_])
structure Pg where
 line : Str
 good : Bool
 text : Str
 frm : List Int
deriving DecidableEq
def Pg0 : Pg := ⟨[], false, [], []⟩
def pgC (p : Pg) : List V := [.s p.line, .b p.good, .s p.text, .sl false (inR p.frm)]
def pgR (l : List Pg) : List (List V) := l.map pgC
theorem ae_ (l : List Pg) : (pgR l).length = l.length := by simp [pgR]
theorem ad_ : ∀ l : List Pg, b7_ (pgR l) = true
 | [] => rfl
 | p :: l => by
  show b7_ (pgC p :: pgR l) = true
  simp only [b7_, pgC, cj_, V.pure, ac_, ad_ l, Bool.and_true]
theorem py_ (p : Pg) : cj_ (pgC p) = true := by simp only [pgC, cj_, V.pure, ac_, Bool.and_true]
theorem cz_ {l : List Pg} {k : Nat} (h : k < l.length) : (pgR l).getD k [] = pgC (l.getD k Pg0) := by
 simp [pgR, T8_, T6_ h]
theorem ag_ (p : Pg) : pgC p = [.s p.line, .b p.good, .s p.text, .sl false (inR p.frm)] := rfl
def d4_ (s : Str) : Bool := tOk s && !m7_ s
theorem tg_ (s : Str) : m7_ s = decide (1 < (spl s).length) := by
 unfold m7_
 by_cases h : (10 : UInt8) ∈ s
 ·obtain ⟨a, b, rfl, ha⟩ := List.eq_append_cons_of_mem h
  rw [l3_ ha]
  have := List.length_pos_iff.2 (va_ b)
  simp; omega
 ·rw [j6_ h]; simpa using h
def db_ (s : Str) : Pg := if d4_ s then (match dk_ s with | none => ⟨s, false, [], []⟩ | some x => ⟨s, true, emT x, emF x⟩) else Pg0
theorem pu_ (s : Str) (hs : s.length ≤ 281474976710656) : ACall En 54 [.s s] [] [.b (d4_ s)] [] := by
 refine ak_ (fn := Tryz.f54) [] Tryz.func54 rfl rfl (by simp) fun C => ?_
 rw [aw_]
 simp only [Tryz.ntmps54, T7_, List.length_nil, Nat.reduceAdd, Nat.reduceSub, List.replicate_succ, List.replicate_zero, List.cons_append, List.nil_append, bo_]
 refine .seq (.rgn [] (by simp only [go_sem, seval]; rfl) ?_ ?_)
 ·first | trivial | simp
 refine .seq (.rgn [a3_ (s6_ s hs), a3_ (aik_ s)] (by simp only [go_sem, seval]; rfl) ?_ ?_)
 ·first | trivial | simp
 refine .ret ⟨.inr rfl, ?_⟩
 exact Out.plain (by simp only [Tryz.results54]; rfl) (by simp only [ay_, a6_, go_sem, seval] <;> (split <;> rfl)) (by simp only [a5_, go_sem, seval] <;> (rfl)) (by simp only [go_sem, seval])
end
section
set_option maxRecDepth 100000
set_option maxHeartbeats 4000000
theorem xq_ (s : Str) : e4_ ((dk_ s).getD S0) = true := by
 cases h : dk_ s with
 | none => decide
 | some x =>
  by_cases hc : (bx_ s).isSome = true ∧ sok (rdS (dd_ s)) = true ∧ ep_ (rdS (dd_ s)) = s
  ·rw [rl_ hc.1 hc.2.1 hc.2.2] at h
   cases h; exact af9_ (uu_ s).1
  ·rw [rn_ hc] at h; cases h
theorem xs_ {s : Str} (h : (dk_ s).isSome = true) : sok ((dk_ s).getD S0) = true := by
 cases hx : dk_ s with
 | none => rw [hx] at h; cases h
 | some x => exact (nf_.1 hx).1
theorem aas_ {s : Str} (h : d4_ s = false) : db_ s = Pg0 := by unfold db_; rw [h]; rfl
theorem rq_ {s : Str} (h : d4_ s = true) (h2 : (dk_ s).isSome = false) : db_ s = ⟨s, false, [], []⟩ := by
 unfold db_; rw [h]
 cases hx : dk_ s with
 | none => rfl
 | some x => rw [hx] at h2; cases h2
theorem vc_ {s : Str} (h : d4_ s = true) (h2 : (dk_ s).isSome = true) : db_ s = ⟨s, true, emT ((dk_ s).getD S0), emF ((dk_ s).getD S0)⟩ := by
 unfold db_; rw [h]
 cases hx : dk_ s with
 | none => rw [hx] at h2; cases h2
 | some x => rfl
theorem ano_ {s : Sl} (h : sok s = true) : (emF s).length = (bw (bof s)).length := by
 have q := hd_ (dt_ h)
 unfold emF; rw [if_pos h, ← vb_ (dt_ h), gk_]
 rw [← q.2, List.length_map]
theorem emFL {s : Sl} (h : sok s = true) : (emF s).length < 1000000 := by rw [ano_ h]; have := (p5_ (hq_ (dt_ h))).1; omega
theorem sb_ (s : Str) : (!tOk s || decide (((spl s).length : Int) > 1)) = !d4_ s := by
 unfold d4_; rw [tg_, Bool.not_and, Bool.not_not]; congr 1; exact decide_eq_decide.2 (by omega)
theorem nr_ (s : Str) (hs : s.length ≤ 281474976710656) : ACall En 42 [.s s] [] [.ag (pgC (db_ s))] [] := by
 have X1 := xq_ s
 have X2 := @xs_ s
 have P1 := @aas_ s
 have P2 := @rq_ s
 have P3 := @vc_ s
 have R := xk_ s hs
 generalize (dk_ s).getD S0 = x at *
 generalize (dk_ s).isSome = ok at *
 refine ak_ (fn := Tryz.f42) [] Tryz.func42 rfl rfl (by simp) fun C => ?_
 rw [aw_]
 simp only [Tryz.ntmps42, T7_, List.length_nil, Nat.reduceAdd, Nat.reduceSub, List.replicate_succ, List.replicate_zero, List.cons_append, List.nil_append, bo_]
 refine .seq (.rgn [] (by simp only [go_sem, seval, al_, ac_, ag_]; rfl) ?_ ?_)
 ·(first | trivial | (simp; done) | (simpa using h17) | exact ⟨by simpa using h17, rfl⟩)
 refine .seq (.seq (.rgn [a3_ (pu_ s hs)] (by simp only [go_sem, seval, al_, ac_, ag_]; rfl) ?_ ?_))
 ·(first | trivial | (simp; done) | (simpa using h17) | exact ⟨by simpa using h17, rfl⟩)
 refine .condB (by simp only [go_sem, seval, al_, ac_, ag_]; rfl) (by simp only [go_sem, seval, al_, ac_, ag_]) (fun h9 => ?_) (fun h9 => ?_)
 ·refine .seq (.rgn [] (by simp only [go_sem, seval, al_, ac_, ag_]; rfl) ?_ ?_)
  ·(first | trivial | (simp; done) | (simpa using h17) | exact ⟨by simpa using h17, rfl⟩)
  refine .ret ⟨.inr rfl, ?_⟩
  exact Out.plainL (by simp only [Tryz.results42]; rfl) (by simp only [ay_, a6_, go_sem, seval, al_, ac_, ag_] <;> (split <;> rfl)) (by simp only [a5_, go_sem, seval, al_, ac_, ag_] <;> (rw [P1 (by simpa using h9)]; simp [Pg0, les, leV, ler, inR])) (by simp only [go_sem, seval, al_, ac_, ag_])
 ·refine .skip (.seq (.rgn [a3_ R] (by simp only [go_sem, seval, al_, ac_, ag_]; rfl) ?_ ?_))
  ·(first | trivial | (simp; done) | (simpa using h17) | exact ⟨by simpa using h17, rfl⟩)
  refine .seq (.seq (.rgn [] (by simp only [go_sem, seval, al_, ac_, ag_]; rfl) ?_ ?_))
  ·(first | trivial | (simp; done) | (simpa using h17) | exact ⟨by simpa using h17, rfl⟩)
  refine .condB (by simp only [go_sem, seval, al_, ac_, ag_]; rfl) (by simp only [go_sem, seval, al_, ac_, ag_]) (fun h17 => ?_) (fun h17 => ?_)
  ·refine .seq (.rgn [] (by simp only [go_sem, seval, al_, ac_, ag_]; rfl) ?_ ?_)
   ·(first | trivial | (simp; done) | (simpa using h17) | exact ⟨by simpa using h17, rfl⟩)
   refine .ret ⟨.inr rfl, ?_⟩
   exact Out.plainL (by simp only [Tryz.results42]; rfl) (by simp only [ay_, a6_, go_sem, seval, al_, ac_, ag_] <;> (split <;> rfl)) (by simp only [a5_, go_sem, seval, al_, ac_, ag_] <;> (rw [P2 (by simpa using h9) (by simpa using h17)]; simp [les, leV, ler, inR])) (by simp only [go_sem, seval, al_, ac_, ag_])
  ·refine .skip (.seq (.rgn [b9_ (ok = true) (fun h => alz_ x (X2 h) X1)] (by simp only [go_sem, seval, al_, ac_, ag_]; rfl) ?_ ?_))
   ·(first | trivial | (simp; done) | (simpa using h17) | exact ⟨by simpa using h17, rfl⟩)
   refine .seq (.rgn [b9_ (ok = true) (fun h => ahj_ (emF x) (by have := emFL (X2 h); omega))] (by simp only [go_sem, seval, al_, ac_, ag_]; rfl) ?_ ?_)
   ·(first | trivial | (simp; done) | (simpa using h17) | exact ⟨by simpa using h17, rfl⟩)
   refine .ret ⟨.inr rfl, ?_⟩
   exact Out.plainL (by simp only [Tryz.results42]; rfl) (by simp only [ay_, a6_, go_sem, seval, al_, ac_, ag_] <;> (split <;> rfl)) (by simp only [a5_, go_sem, seval, al_, ac_, ag_] <;> (rw [P3 (by simpa using h9) (by simpa using h17)]; simp [les, leV, ler, a9_])) (by simp only [go_sem, seval, al_, ac_, ag_])
theorem ks_ (s : Str) (hs : s.length ≤ 281474976710656) : ACall En 44 [.s s] [] [.ag (pgC (db_ s))] [] := by
 have X1 := xq_ s
 have X2 := @xs_ s
 have P1 := @aas_ s
 have P2 := @rq_ s
 have P3 := @vc_ s
 have R := vu_ s hs
 have hn := tg_ s
 have hI : d4_ s = (tOk s && !m7_ s) := rfl
 generalize (dk_ s).getD S0 = x at *
 generalize (dk_ s).isSome = ok at *
 refine ak_ (fn := Tryz.f44) [] Tryz.func44 rfl rfl (by simp) fun C => ?_
 rw [aw_]
 simp only [Tryz.ntmps44, T7_, List.length_nil, Nat.reduceAdd, Nat.reduceSub, List.replicate_succ, List.replicate_zero, List.cons_append, List.nil_append, bo_]
 refine .seq (.rgn [] (by simp only [go_sem, seval, al_, ac_, ag_, ab_, aa_]; rfl) ?_ ?_)
 ·first | trivial | simp
 refine .seq (.seq (.rgn [a3_ (ki_ s hs), b9_ (tOk s = true) (fun h => l0_ s (kg_ h))] (by simp only [go_sem, seval, al_, ac_, ag_, ab_, aa_]; rfl) ?_ ?_))
 ·first | trivial | simp
 refine .condB (by simp only [go_sem, seval, al_, ac_, ag_, ab_, aa_]; rfl) (by simp only [go_sem, seval, al_, ac_, ag_, ab_, aa_]) (fun h15 => ?_) (fun h15 => ?_)
 ·refine .seq (.rgn [] (by simp only [go_sem, seval, al_, ac_, ag_, ab_, aa_]; rfl) ?_ ?_)
  ·first | trivial | simp
  refine .ret ⟨.inr rfl, ?_⟩
  exact Out.plainL (by simp only [Tryz.results44]; rfl) (by simp only [ay_, a6_, go_sem, seval, al_, ac_, ag_, ab_, aa_] <;> (split <;> rfl)) (by simp only [a5_, go_sem, seval, al_, ac_, ag_, ab_, aa_] <;> (rw [sb_] at h15; rw [P1 (by simpa using h15)]; simp [Pg0, les, leV, ler, inR])) (by simp only [go_sem, seval, al_, ac_, ag_, ab_, aa_])
 ·refine .skip (.seq (.rgn [a3_ R] (by simp only [go_sem, seval, al_, ac_, ag_, ab_, aa_]; rfl) ?_ ?_))
  ·first | trivial | simp
  refine .seq (.seq (.rgn [] (by simp only [go_sem, seval, al_, ac_, ag_, ab_, aa_]; rfl) ?_ ?_))
  ·first | trivial | simp
  refine .condB (by simp only [go_sem, seval, al_, ac_, ag_, ab_, aa_]; rfl) (by simp only [go_sem, seval, al_, ac_, ag_, ab_, aa_]) (fun h23 => ?_) (fun h23 => ?_)
  ·refine .seq (.rgn [] (by simp only [go_sem, seval, al_, ac_, ag_, ab_, aa_]; rfl) ?_ ?_)
   ·first | trivial | simp
   refine .ret ⟨.inr rfl, ?_⟩
   exact Out.plainL (by simp only [Tryz.results44]; rfl) (by simp only [ay_, a6_, go_sem, seval, al_, ac_, ag_, ab_, aa_] <;> (split <;> rfl)) (by simp only [a5_, go_sem, seval, al_, ac_, ag_, ab_, aa_] <;> (rw [sb_] at h15; rw [P2 (by simpa using h15) (by simpa using h23)]; simp [les, leV, ler, inR])) (by simp only [go_sem, seval, al_, ac_, ag_, ab_, aa_])
  ·refine .skip (.seq (.rgn [a3_ (x8_ x X1)] (by simp only [go_sem, seval, al_, ac_, ag_, ab_, aa_]; rfl) ?_ ?_))
   ·first | trivial | simp
   refine .seq (.rgn [] (by simp only [go_sem, seval, al_, ac_, ag_, ab_, aa_]; rfl) ?_ ?_)
   ·first | trivial | simp
   refine .ret ⟨.inr rfl, ?_⟩
   exact Out.plainL (by simp only [Tryz.results44]; rfl) (by simp only [ay_, a6_, go_sem, seval, al_, ac_, ag_, ab_, aa_] <;> (split <;> rfl)) (by simp only [a5_, go_sem, seval, al_, ac_, ag_, ab_, aa_] <;> (rw [sb_] at h15; rw [P3 (by simpa using h15) (by simpa using h23)]; simp [les, leV, ler, a9_])) (by simp only [go_sem, seval, al_, ac_, ag_, ab_, aa_])
theorem da_ {a b : Pg} (h : (((!(a.line == b.line) || !(a.good == b.good)) || !(a.text == b.text)) || ((a.frm.length : Int) != (b.frm.length : Int))) = false) : a.line = b.line ∧ a.good = b.good ∧ a.text = b.text ∧ a.frm.length = b.frm.length := by
 simp only [Bool.or_eq_false_iff, Bool.not_eq_false', beq_iff_eq, bne_eq_false_iff_eq] at h
 exact ⟨h.1.1.1, h.1.1.2, h.1.2, by omega⟩
theorem amd_ {a b : Pg} (h : a.line = b.line ∧ a.good = b.good ∧ a.text = b.text ∧ a.frm.length = b.frm.length) {j : Nat} (hj : a.frm.length ≤ j) (hf : a.frm.take j = b.frm.take j) : a = b := by
 obtain ⟨l, g, t, f⟩ := a
 obtain ⟨l', g', t', f'⟩ := b
 obtain ⟨rfl, rfl, rfl, hl⟩ := h
 dsimp only at hl hj hf
 rw [T1_ hj, T1_ (by omega)] at hf
 rw [hf]
theorem cv_ {α β : Type} {a : List α} {b : List β} (h : ((a.length : Int) != (b.length : Int)) = false) : a.length = b.length := by
 rw [bne_eq_false_iff_eq] at h; omega
theorem aew_ (a b : List Pg) (ha : a.length ≤ 1000000) (hb : b.length ≤ 1000000) (hA : ∀ p ∈ a, p.frm.length ≤ 4000000) : ACall En 15 [.sl false (pgR a), .sl false (pgR b)] [] [.b (decide (a = b))] [] := by
 refine ak_ (fn := Tryz.f15) [] Tryz.func15 rfl rfl (by simp) fun C => ?_
 rw [aw_]
 simp only [Tryz.ntmps15, T7_, List.length_nil, Nat.reduceAdd, Nat.reduceSub, List.replicate_succ, List.replicate_zero, List.cons_append, List.nil_append, bo_]
 refine .seq (.rgn [] (by simp only [go_sem, seval, ae_, ad_, aj_, ac_, ag_]; rfl) ?_ ?_)
 ·(first | trivial | (simp; done) | (have q := cv_ h11; simp only [T3_] at h15; and_intros <;> first | omega | exact fun h => ⟨h, by omega, by omega⟩ | exact fun h => by rw [h]; rfl) | (have q := cv_ h11; have q2 := (da_ h69).2.2.2; simp only [T3_] at h15 h77; and_intros <;> omega))
 refine .seq (.seq (.rgn [] (by simp only [go_sem, seval, ae_, ad_, aj_, ac_, ag_]; rfl) ?_ ?_))
 ·(first | trivial | (simp; done) | (have q := cv_ h11; simp only [T3_] at h15; and_intros <;> first | omega | exact fun h => ⟨h, by omega, by omega⟩ | exact fun h => by rw [h]; rfl) | (have q := cv_ h11; have q2 := (da_ h69).2.2.2; simp only [T3_] at h15 h77; and_intros <;> omega))
 refine .condB (by simp only [go_sem, seval, ae_, ad_, aj_, ac_, ag_]; rfl) (by simp only [go_sem, seval, ae_, ad_, aj_, ac_, ag_]) (fun h11 => ?_) (fun h11 => ?_)
 ·refine .seq (.rgn [] (by simp only [go_sem, seval, ae_, ad_, aj_, ac_, ag_]; rfl) ?_ ?_)
  ·(first | trivial | (simp; done) | (have q := cv_ h11; simp only [T3_] at h15; and_intros <;> first | omega | exact fun h => ⟨h, by omega, by omega⟩ | exact fun h => by rw [h]; rfl) | (have q := cv_ h11; have q2 := (da_ h69).2.2.2; simp only [T3_] at h15 h77; and_intros <;> omega))
  refine .ret ⟨.inr rfl, ?_⟩
  exact Out.plain (by simp only [Tryz.results15]; rfl) (by simp only [ay_, a6_, go_sem, seval, ae_, ad_, aj_, ac_, ag_] <;> (split <;> rfl)) (by simp only [a5_, go_sem, seval, ae_, ad_, aj_, ac_, ag_] <;> (rw [decide_eq_false]; rintro rfl; simp at h11)) (by simp only [go_sem, seval, ae_, ad_, aj_, ac_, ag_])
 ·refine .skip (.seq (.seq (.rgn [] (by simp only [go_sem, seval, ae_, ad_, aj_, ac_, ag_]; rfl) ?_ ?_)))
  ·(first | trivial | (simp; done) | (have q := cv_ h11; simp only [T3_] at h15; and_intros <;> first | omega | exact fun h => ⟨h, by omega, by omega⟩ | exact fun h => by rw [h]; rfl) | (have q := cv_ h11; have q2 := (da_ h69).2.2.2; simp only [T3_] at h15 h77; and_intros <;> omega))
  refine .block (.loopK (fun k : Nat => ⟨[.sl false (pgR a), .sl false (pgR b), .no, .no, .no, .i .i64 k, .no, .no, .no, .no, .no, .no, .no, .no, .no, .no, .no, .no, .no, .no, .no, .no, .no, .no, .no, .no, .no, .no, .no, .no, .no, .no, .no, .no, .no, .no, .no, .no, .no, .no, .no, .no, .no, .no, .no, .no, .no, .no, .no, .no, .no, .no, .no, .no, .no, .no, .no, .no, .no, .no, .no, .no, .no, .no, .no, .no, .no, .no, .no, .no, .no, .no, .no, .no, .no, .no, .no, .no, .no, .no, .no, .no, .no, .no, .no, .no, .no, .no, .no, .no, .no, .no, .no, .no, .no, .no, .no], be_ [], us []⟩) (fun k : Nat => k ≤ a.length ∧ a.take k = b.take k) (fun k : Nat => a.length - k) (0) ?_ ?_ (fun k hI => ?_))
  ·exact ⟨Nat.zero_le _, rfl⟩
  ·exact Can.weak (Weak.lit (by simp only [go_sem, seval, ae_, ad_, aj_, ac_, ag_, ar_, leV, ap_, aq_, V.inn, us, T9_, Ta_] <;> ((try simp))) (by simp only [go_sem, seval, ae_, ad_, aj_, ac_, ag_, ar_, leV, ap_, aq_, V.inn, us, T9_, Ta_]) (by simp only [go_sem, seval, ae_, ad_, aj_, ac_, ag_, ar_, leV, ap_, aq_, V.inn, us, T9_, Ta_]))
  refine .seq (.seq (.rgn [] (by simp only [go_sem, seval, ae_, ad_, aj_, ac_, ag_]; rfl) ?_ ?_))
  ·(first | trivial | (simp; done) | (have q := cv_ h11; simp only [T3_] at h15; and_intros <;> first | omega | exact fun h => ⟨h, by omega, by omega⟩ | exact fun h => by rw [h]; rfl) | (have q := cv_ h11; have q2 := (da_ h69).2.2.2; simp only [T3_] at h15 h77; and_intros <;> omega))
  refine .condB (by simp only [go_sem, seval, ae_, ad_, aj_, ac_, ag_]; rfl) (by simp only [go_sem, seval, ae_, ad_, aj_, ac_, ag_]) (fun h15 => ?_) (fun h15 => ?_)
  ·refine .skip (.seq (.block (.seq (.seq (.rgnD [] enM (by simp only [go_sem, seval, ae_, ad_, aj_, ac_, ag_, cz_ (show k < a.length by simpa using h15), cz_ (show k < b.length by have q := cv_ h11; simp only [T3_] at h15; omega)]; rfl) (by rfl) ?_ ?_)))))
   ·(first | trivial | (simp; done) | (have q := cv_ h11; simp only [T3_] at h15; and_intros <;> first | omega | exact fun h => ⟨h, by omega, by omega⟩ | exact fun h => by rw [h]; rfl) | (have q := cv_ h11; have q2 := (da_ h69).2.2.2; simp only [T3_] at h15 h77; and_intros <;> omega))
   refine .condB (by simp only [go_sem, seval, ae_, ad_, aj_, ac_, ag_]; rfl) (by simp only [go_sem, seval, ae_, ad_, aj_, ac_, ag_]) (fun h69 => ?_) (fun h69 => ?_)
   ·refine .seq (.rgn [] (by simp only [go_sem, seval, ae_, ad_, aj_, ac_, ag_]; rfl) ?_ ?_)
    ·(first | trivial | (simp; done) | (have q := cv_ h11; simp only [T3_] at h15; and_intros <;> first | omega | exact fun h => ⟨h, by omega, by omega⟩ | exact fun h => by rw [h]; rfl) | (have q := cv_ h11; have q2 := (da_ h69).2.2.2; simp only [T3_] at h15 h77; and_intros <;> omega))
    refine .ret ⟨.inr rfl, ?_⟩
    exact Out.plain (by simp only [Tryz.results15]; rfl) (by simp only [ay_, a6_, go_sem, seval, ae_, ad_, aj_, ac_, ag_] <;> (split <;> rfl)) (by simp only [a5_, go_sem, seval, ae_, ad_, aj_, ac_, ag_] <;> (rw [decide_eq_false]; rintro rfl; simp at h69)) (by simp only [go_sem, seval, ae_, ad_, aj_, ac_, ag_])
   ·refine .skip (.seq (.rgn [] (by simp only [go_sem, seval, ae_, ad_, aj_, ac_, ag_]; rfl) ?_ ?_))
    ·(first | trivial | (simp; done) | (have q := cv_ h11; simp only [T3_] at h15; and_intros <;> first | omega | exact fun h => ⟨h, by omega, by omega⟩ | exact fun h => by rw [h]; rfl) | (have q := cv_ h11; have q2 := (da_ h69).2.2.2; simp only [T3_] at h15 h77; and_intros <;> omega))
    refine .block (.loopK (fun j : Nat => ⟨[.sl false (pgR a), .sl false (pgR b), .no, .no, .no, .i .i64 k, .i .i64 j, .no, .no, .no, .no, .no, .no, .no, .no, .no, .no, .no, .no, .no, .no, .no, .no, .no, .no, .no, .no, .no, .no, .no, .no, .no, .no, .no, .no, .no, .no, .no, .no, .no, .no, .no, .no, .no, .no, .no, .no, .no, .no, .no, .no, .no, .no, .no, .no, .no, .no, .no, .no, .no, .no, .no, .no, .no, .no, .no, .no, .no, .no, .no, .no, .no, .no, .no, .no, .no, .no, .no, .no, .no, .no, .no, .no, .no, .no, .no, .no, .no, .no, .no, .no, .no, .no, .no, .no, .no, .no], be_ [], us []⟩) (fun j : Nat => k ≤ a.length ∧ a.take k = b.take k ∧ j ≤ (a.getD k Pg0).frm.length ∧ (a.getD k Pg0).frm.take j = (b.getD k Pg0).frm.take j) (fun j : Nat => (a.getD k Pg0).frm.length - j) (0) ?_ ?_ (fun j hI => ?_))
    ·exact ⟨hI.1, hI.2, Nat.zero_le _, rfl⟩
    ·exact Can.weak (Weak.lit (by simp only [go_sem, seval, ae_, ad_, aj_, ac_, ag_, ar_, leV, ap_, aq_, V.inn, us, T9_, Ta_] <;> ((try simp))) (by simp only [go_sem, seval, ae_, ad_, aj_, ac_, ag_, ar_, leV, ap_, aq_, V.inn, us, T9_, Ta_]) (by simp only [go_sem, seval, ae_, ad_, aj_, ac_, ag_, ar_, leV, ap_, aq_, V.inn, us, T9_, Ta_]))
    refine .seq (.seq (.rgn [] (by simp only [go_sem, seval, ae_, ad_, aj_, ac_, ag_, cz_ (show k < a.length by simpa using h15)]; rfl) ?_ ?_))
    ·(first | trivial | (simp; done) | (have q := cv_ h11; simp only [T3_] at h15; and_intros <;> first | omega | exact fun h => ⟨h, by omega, by omega⟩ | exact fun h => by rw [h]; rfl) | (have q := cv_ h11; have q2 := (da_ h69).2.2.2; simp only [T3_] at h15 h77; and_intros <;> omega))
    refine .condB (by simp only [go_sem, seval, ae_, ad_, aj_, ac_, ag_]; rfl) (by simp only [go_sem, seval, ae_, ad_, aj_, ac_, ag_]) (fun h77 => ?_) (fun h77 => ?_)
    ·refine .skip (.seq (.block (.seq (.rgnD [] enM (by simp only [go_sem, seval, ae_, ad_, aj_, ac_, ag_, cz_ (show k < a.length by simpa using h15), cz_ (show k < b.length by have q := cv_ h11; simp only [T3_] at h15; omega), e8_ (show j < (a.getD k Pg0).frm.length by simpa using h77), e8_ (show j < (b.getD k Pg0).frm.length by have q := (da_ h69).2.2.2; simp only [T3_] at h77; omega)]; rfl) (by rfl) ?_ ?_))))
     ·(first | trivial | (simp; done) | (have q := cv_ h11; simp only [T3_] at h15; and_intros <;> first | omega | exact fun h => ⟨h, by omega, by omega⟩ | exact fun h => by rw [h]; rfl) | (have q := cv_ h11; have q2 := (da_ h69).2.2.2; simp only [T3_] at h15 h77; and_intros <;> omega))
     refine .condB (by simp only [go_sem, seval, ae_, ad_, aj_, ac_, ag_]; rfl) (by simp only [go_sem, seval, ae_, ad_, aj_, ac_, ag_]) (fun h96 => ?_) (fun h96 => ?_)
     ·refine .seq (.rgn [] (by simp only [go_sem, seval, ae_, ad_, aj_, ac_, ag_]; rfl) ?_ ?_)
      ·(first | trivial | (simp; done) | (have q := cv_ h11; simp only [T3_] at h15; and_intros <;> first | omega | exact fun h => ⟨h, by omega, by omega⟩ | exact fun h => by rw [h]; rfl) | (have q := cv_ h11; have q2 := (da_ h69).2.2.2; simp only [T3_] at h15 h77; and_intros <;> omega))
      refine .ret ⟨.inr rfl, ?_⟩
      exact Out.plain (by simp only [Tryz.results15]; rfl) (by simp only [ay_, a6_, go_sem, seval, ae_, ad_, aj_, ac_, ag_] <;> (split <;> rfl)) (by simp only [a5_, go_sem, seval, ae_, ad_, aj_, ac_, ag_] <;> (rw [decide_eq_false]; rintro rfl; simp at h96)) (by simp only [go_sem, seval, ae_, ad_, aj_, ac_, ag_])
     ·refine .skip (.rgn [] (by simp only [go_sem, seval, ae_, ad_, aj_, ac_, ag_]; rfl) ?_ ?_)
      ·(first | trivial | (simp; done) | (have q := cv_ h11; simp only [T3_] at h15; and_intros <;> first | omega | exact fun h => ⟨h, by omega, by omega⟩ | exact fun h => by rw [h]; rfl) | (have q := cv_ h11; have q2 := (da_ h69).2.2.2; simp only [T3_] at h15 h77; and_intros <;> omega))
      refine Exists.intro (j + 1) ⟨?_, ?_, ?_⟩
      ·have q2 := (da_ h69).2.2.2; simp only [T3_] at h77; exact ⟨hI.1, hI.2.1, by omega, mj_ (d := 0) (by omega) (by omega) hI.2.2.2 (bne_eq_false_iff_eq.1 h96)⟩
      ·simp only [T3_] at h77; omega
      exact Can.weak (Weak.lit (by simp only [go_sem, seval, ae_, ad_, aj_, ac_, ag_, ar_, leV, ap_, aq_, V.inn, us, T9_, Ta_] <;> (simp only [T3_] at h77 h15; have := hA _ (bh_ (d := Pg0) (show k < a.length by omega)); exact bd_ (n := ((j + 1 : Nat) : Int)) (by omega) (by omega))) (by simp only [go_sem, seval, ae_, ad_, aj_, ac_, ag_, ar_, leV, ap_, aq_, V.inn, us, T9_, Ta_]) (by simp only [go_sem, seval, ae_, ad_, aj_, ac_, ag_, ar_, leV, ap_, aq_, V.inn, us, T9_, Ta_]))
    ·refine .exit (.rgn [] (by simp only [go_sem, seval, ae_, ad_, aj_, ac_, ag_]; rfl) ?_ ?_)
     ·(first | trivial | (simp; done) | (have q := cv_ h11; simp only [T3_] at h15; and_intros <;> first | omega | exact fun h => ⟨h, by omega, by omega⟩ | exact fun h => by rw [h]; rfl) | (have q := cv_ h11; have q2 := (da_ h69).2.2.2; simp only [T3_] at h15 h77; and_intros <;> omega))
     refine Exists.intro (k + 1) ⟨?_, ?_, ?_⟩
     ·have q := cv_ h11; simp only [T3_] at h15; simp only [T4_] at h77; exact ⟨by omega, mj_ (d := Pg0) (by omega) (by omega) hI.2.1 (amd_ (da_ h69) (by omega) hI.2.2.2)⟩
     ·simp only [T3_] at h15; omega
     exact Can.weak (Weak.lit (by simp only [go_sem, seval, ae_, ad_, aj_, ac_, ag_, ar_, leV, ap_, aq_, V.inn, us, T9_, Ta_] <;> (simp only [T3_] at h15; exact bd_ (n := ((k + 1 : Nat) : Int)) (by omega) (by omega))) (by simp only [go_sem, seval, ae_, ad_, aj_, ac_, ag_, ar_, leV, ap_, aq_, V.inn, us, T9_, Ta_]) (by simp only [go_sem, seval, ae_, ad_, aj_, ac_, ag_, ar_, leV, ap_, aq_, V.inn, us, T9_, Ta_]))
  ·refine .exit (.seq (.rgn [] (by simp only [go_sem, seval, ae_, ad_, aj_, ac_, ag_]; rfl) ?_ ?_))
   ·(first | trivial | (simp; done) | (have q := cv_ h11; simp only [T3_] at h15; and_intros <;> first | omega | exact fun h => ⟨h, by omega, by omega⟩ | exact fun h => by rw [h]; rfl) | (have q := cv_ h11; have q2 := (da_ h69).2.2.2; simp only [T3_] at h15 h77; and_intros <;> omega))
   refine .ret ⟨.inr rfl, ?_⟩
   exact Out.plain (by simp only [Tryz.results15]; rfl) (by simp only [ay_, a6_, go_sem, seval, ae_, ad_, aj_, ac_, ag_] <;> (split <;> rfl)) (by simp only [a5_, go_sem, seval, ae_, ad_, aj_, ac_, ag_] <;> (have q := cv_ h11; simp only [T4_] at h15; have e := hI.2; rw [T1_ (by omega), T1_ (by omega)] at e; rw [decide_eq_true e])) (by simp only [go_sem, seval, ae_, ad_, aj_, ac_, ag_])
end
end Go.Proofs.YtpikbndepapbhaaGreatDoor
