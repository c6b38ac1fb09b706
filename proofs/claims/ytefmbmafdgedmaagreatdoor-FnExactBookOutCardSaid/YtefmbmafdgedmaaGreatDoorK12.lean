/- Books: lines with what they are turned into, plainly. Conditions: none. -/
import Derived.Test.YtefmbmafdgedmaaGreatDoorK11
import Derived.Test.YtefmbmafdgedmaaGreatDoorK1
import Derived.Test.YtefmbmafdgedmaaGreatDoorKr
set_option linter.unusedVariables false
set_option linter.unusedSimpArgs false
namespace Go.Proofs.YtefmbmafdgedmaaGreatDoor
section
set_option maxRecDepth 100000
def okP (p : Pg) : Bool := fr_ p.line && decide (p = e8_ p.line)
def g5_ (l : List Pg) : Bool := decide (1 ≤ l.length) && decide (l.length ≤ 16) && l.all okP
def stOf (s : Str) : Sl := (d4_ s).getD S0
theorem jb_ {l : List Pg} (h : g5_ l = true) : 1 ≤ l.length ∧ l.length ≤ 16 ∧ ∀ k, k < l.length → okP (l.getD k Pg0) = true := by
 simp only [g5_, T5_, T3_] at h
 exact ⟨h.1.1, h.1.2, fun k hk => List.all_eq_true.1 h.2 _ (b3_ hk)⟩
theorem afh_ {p : Pg} (h : okP p = true) : fr_ p.line = true ∧ p = e8_ p.line := by
 simp only [okP, T5_, T3_] at h; exact h
theorem agf_ (s : Str) : sok (stOf s) = true := by
 unfold stOf
 cases h : d4_ s with
 | none => exact ze_
 | some x => exact (nr_.1 h).1
theorem emT_S0' : emT S0 = [] := by unfold emT; rw [if_pos ze_]; decide
theorem aig_ {p : Pg} (h : okP p = true) : p.text = emT (stOf p.line) ∧ p.frm = emF (stOf p.line) ∧ p.good = (d4_ p.line).isSome := by
 obtain ⟨h1, h2⟩ := afh_ h
 unfold stOf
 cases hx : d4_ p.line with
 | none => rw [h2, rb_ h1 (by rw [hx]; rfl)]; exact ⟨emT_S0'.symm, emF_S0.symm, rfl⟩
 | some x => rw [h2, us_ h1 (by rw [hx]; rfl), hx]; exact ⟨rfl, rfl, rfl⟩
theorem p5_ {l : List Pg} (h : g5_ l = true) : ∀ p ∈ l, okP p = true := by
 simp only [g5_, T5_] at h
 exact List.all_eq_true.1 h.2
theorem af3_ (s : Sl) : lnOk (emT s) := by
 by_cases h : sok s = true
 ·rw [ab8_ h]; exact yp_ (ai8_ h)
 ·unfold emT; rw [if_neg h]; exact ⟨rfl, by simp⟩
end
section
set_option maxRecDepth 100000
end
section
set_option maxRecDepth 100000
def pgB (p : Pg) : Prop := p.line.length ≤ 2000000 ∧ p.text.length ≤ 2000000 ∧ p.frm.length ≤ 2000000
theorem ak7_ (s : Sl) : (emF s).length ≤ 1000 := by
 by_cases h : sok s = true
 ·have := aey_ h; omega
 ·unfold emF; rw [if_neg h]; simp
theorem y0_ {s : Str} (h : s.length ≤ 2000000) : pgB (e8_ s) := by
 unfold e8_
 split
 ·cases hx : d4_ s with
  | none => exact ⟨h, by simp, by simp⟩
  | some x => exact ⟨h, by have := (af3_ x).2; dsimp only; omega, by have := ak7_ x; dsimp only; omega⟩
 ·exact ⟨by simp [Pg0], by simp [Pg0], by simp [Pg0]⟩
end
section
set_option maxRecDepth 100000
set_option maxHeartbeats 4000000
theorem agi_ (a b : List Int) (ha : a.length ≤ 1000000000) (hb : b.length ≤ 1000000000) : ACall En 211 [.sl false (inR a), .sl false (inR b)] [] [.b (a == b)] [] := by
 refine ao_ (fn := Tryz.f211) [] Tryz.func211 rfl rfl (by simp) fun C => ?_
 rw [bb_]
 simp only [Tryz.ntmps211, T7_, List.length_nil, Nat.reduceAdd, Nat.reduceSub, List.replicate_succ, List.replicate_zero, List.cons_append, List.nil_append, bu_]
 refine .seq (.rgn [] (by simp only [go_sem, seval, ah_, ac_]; rfl) ?_ ?_)
 ·first | trivial | simp
 refine .seq (.seq (.rgn [] (by simp only [go_sem, seval, ah_, ac_]; rfl) ?_ ?_))
 ·first | trivial | simp
 refine .condB (by simp only [go_sem, seval, ah_, ac_]; rfl) (by simp only [go_sem, seval, ah_, ac_]) (fun h10 => ?_) (fun h10 => ?_)
 ·refine .seq (.rgn [] (by simp only [go_sem, seval, ah_, ac_]; rfl) ?_ ?_)
  ·first | trivial | simp
  refine .ret ⟨.inr rfl, ?_⟩
  exact Out.plain (by simp only [Tryz.results211]; rfl) (by simp only [bd_, bo_, go_sem, seval, ah_, ac_] <;> (split <;> rfl)) (by simp only [bn_, go_sem, seval, ah_, ac_] <;> (have : a ≠ b := (fun e => by simp [e] at h10); simp [this])) (by simp only [go_sem, seval, ah_, ac_])
 ·refine .skip (.seq (.seq (.rgn [] (by simp only [go_sem, seval, ah_, ac_]; rfl) ?_ ?_)))
  ·first | trivial | simp
  refine .block (.loopK (fun k : Nat => ⟨[.sl false (inR a), .sl false (inR b), .no, .no, .no, .no, .no, .no, .no, .no, .no, .no, .i .i64 a.length, .i .i64 k, .no, .no, .no, .no, .no, .no, .no, .no, .no, .no, .no, .no], bk_ [], us []⟩) (fun k : Nat => k ≤ a.length ∧ a.take k = b.take k) (fun k : Nat => a.length - k) (0) ?_ ?_ (fun k hI => ?_))
  ·exact ⟨Nat.zero_le _, rfl⟩
  ·exact Can.weak (Weak.lit (by simp only [go_sem, seval, ah_, ac_, ay_, leV, aw_, ax_, V.inn, us, T9_, Ta_] <;> (simp)) (by simp only [go_sem, seval, ah_, ac_, ay_, leV, aw_, ax_, V.inn, us, T9_, Ta_]) (by simp only [go_sem, seval, ah_, ac_, ay_, leV, aw_, ax_, V.inn, us, T9_, Ta_]))
  refine .seq (.rgn [] (by simp only [go_sem, seval, ah_, ac_]; rfl) ?_ ?_)
  ·first | trivial | simp
  refine .seq (.condB (by simp only [go_sem, seval, ah_, ac_]; rfl) (by simp only [go_sem, seval, ah_, ac_]) (fun h14 => ?_) (fun h14 => ?_))
  ·refine .skip (.seq (.block (.seq (.rgn [] (by simp only [go_sem, seval, ah_, ac_]; rfl) ?_ ?_))))
   ·first | trivial | simp
   refine .seq (.rgnD [] enM (by simp only [go_sem, seval, ah_, ac_, el_ (show k < a.length by simpa using h14), el_ (show k < b.length by simp at h14 h10; omega)]; rfl) (by rfl) ?_ ?_)
   ·simp at h14 h10; simp; omega
   refine .condB (by simp only [go_sem, seval, ah_, ac_]; rfl) (by simp only [go_sem, seval, ah_, ac_]) (fun h24 => ?_) (fun h24 => ?_)
   ·refine .seq (.rgn [] (by simp only [go_sem, seval, ah_, ac_]; rfl) ?_ ?_)
    ·first | trivial | simp
    refine .ret ⟨.inr rfl, ?_⟩
    exact Out.plain (by simp only [Tryz.results211]; rfl) (by simp only [bd_, bo_, go_sem, seval, ah_, ac_] <;> (split <;> rfl)) (by simp only [bn_, go_sem, seval, ah_, ac_] <;> (have h2 : a.getD k 0 ≠ b.getD k 0 := bne_iff_ne.1 h24; have : a ≠ b := (fun e => h2 (by rw [e])); simp [this])) (by simp only [go_sem, seval, ah_, ac_])
   ·refine .skip (.rgn [] (by simp only [go_sem, seval, ah_, ac_]; rfl) ?_ ?_)
    ·first | trivial | simp
    refine Exists.intro (k + 1) ⟨?_, ?_, ?_⟩
    ·simp only [T3_] at h14; simp at h10; exact ⟨by omega, mc_ (d := 0) (by omega) (by omega) hI.2 (by simpa using h24)⟩
    ·simp at h14; omega
    exact Can.weak (Weak.lit (by simp only [go_sem, seval, ah_, ac_, ay_, leV, aw_, ax_, V.inn, us, T9_, Ta_] <;> (rw [bx_ (by simp at h14; omega) (by simp at h14; omega)]; simp)) (by simp only [go_sem, seval, ah_, ac_, ay_, leV, aw_, ax_, V.inn, us, T9_, Ta_]) (by simp only [go_sem, seval, ah_, ac_, ay_, leV, aw_, ax_, V.inn, us, T9_, Ta_]))
  ·refine .exit (.seq (.rgn [] (by simp only [go_sem, seval, ah_, ac_]; rfl) ?_ ?_))
   ·first | trivial | simp
   refine .ret ⟨.inr rfl, ?_⟩
   exact Out.plain (by simp only [Tryz.results211]; rfl) (by simp only [bd_, bo_, go_sem, seval, ah_, ac_] <;> (split <;> rfl)) (by simp only [bn_, go_sem, seval, ah_, ac_] <;> (simp only [T4_] at h14; simp at h10; have q := hI.2; rw [T1_ (by omega), T1_ (by omega)] at q; simp [q])) (by simp only [go_sem, seval, ah_, ac_])
theorem wf_ {p q : Pg} : (p = q) ↔ (((p.line = q.line ∧ p.good = q.good) ∧ p.text = q.text) ∧ p.frm = q.frm) := by
 constructor
 ·rintro rfl; exact ⟨⟨⟨rfl, rfl⟩, rfl⟩, rfl⟩
 ·intro h; obtain ⟨a, b, c, d⟩ := p; obtain ⟨a2, b2, c2, d2⟩ := q; simp_all
theorem amf_ (p q : Pg) (hp : pgB p) (hq : pgB q) : ACall En 183 [.ag (pgC p), .ag (pgC q)] [] [.b (decide (p = q))] [] := by
 have h1 := hp.2.2
 have h2 := hq.2.2
 have T := @wf_ p q
 refine ao_ (fn := Tryz.f183) [] Tryz.func183 rfl rfl (by simp) fun C => ?_
 rw [bb_]
 simp only [Tryz.ntmps183, T7_, List.length_nil, Nat.reduceAdd, Nat.reduceSub, List.replicate_succ, List.replicate_zero, List.cons_append, List.nil_append, bu_]
 refine .seq (.rgn [] (by simp only [go_sem, seval, aj_, ac_]; rfl) ?_ ?_)
 ·first | trivial | simp
 refine .seq (.rgn [bj_ (agi_ p.frm q.frm (by omega) (by omega))] (by simp only [go_sem, seval, aj_, ac_]; rfl) ?_ ?_)
 ·first | trivial | simp
 refine .ret ⟨.inr rfl, ?_⟩
 exact Out.plain (by simp only [Tryz.results183]; rfl) (by simp only [bd_, bo_, go_sem, seval, aj_, ac_] <;> (split <;> rfl)) (by simp only [bn_, go_sem, seval, aj_, ac_] <;> (have e : (p.line == q.line && p.good == q.good && p.text == q.text && p.frm == q.frm) = decide (p = q) := (by rw [Bool.eq_iff_iff]; simp only [T5_, beq_iff_eq, T3_]; exact T.symm); rw [e])) (by simp only [go_sem, seval, aj_, ac_])
theorem abf_ (p : Pg) (hp : pgB p) : ACall En 182 [.ag (pgC p)] [] [.b (!okP p)] [] := by
 have P := n4_ p.line (by have := hp.1; omega)
 have B := y0_ hp.1
 refine ao_ (fn := Tryz.f182) [] Tryz.func182 rfl rfl (by simp) fun C => ?_
 rw [bb_]
 simp only [Tryz.ntmps182, T7_, List.length_nil, Nat.reduceAdd, Nat.reduceSub, List.replicate_succ, List.replicate_zero, List.cons_append, List.nil_append, bu_]
 refine .seq (.rgn [] (by simp only [go_sem, seval, aj_, ac_]; rfl) ?_ ?_)
 ·first | trivial | simp
 refine .seq (.rgnD [bj_ (rn_ p.line (by have := hp.1; omega)), bj_ P, bj_ (amf_ p (e8_ p.line) hp B)] enM (by simp only [go_sem, seval, aj_, ac_]; rfl) (by rfl) ?_ ?_)
 ·first | trivial | simp
 refine .ret ⟨.inr rfl, ?_⟩
 exact Out.plain (by simp only [Tryz.results182]; rfl) (by simp only [bd_, bo_, go_sem, seval, aj_, ac_] <;> (split <;> rfl)) (by simp only [bn_, go_sem, seval, aj_, ac_] <;> (rw [okP, Bool.not_and])) (by simp only [go_sem, seval, aj_, ac_])
theorem aio_ (l : List Pg) (hs : ∀ p ∈ l, pgB p) (hl : l.length ≤ 2000000) : ACall En 210 [.sl false (pgR l), .fn (.func 182) [] []] [] [.i .i64 (v7_ (fun p => !okP p) l)] [] := by
 refine ao_ (fn := Tryz.f210) [] Tryz.func210 rfl rfl (by simp) fun C => ?_
 rw [bb_]
 simp only [Tryz.ntmps210, T7_, List.length_nil, Nat.reduceAdd, Nat.reduceSub, List.replicate_succ, List.replicate_zero, List.cons_append, List.nil_append, bu_]
 refine .seq (.rgn [] (by simp only [go_sem, seval, ae_, ad_, aj_]; rfl) ?_ ?_)
 ·first | trivial | simp
 refine .seq (.seq (.rgn [] (by simp only [go_sem, seval, ae_, ad_, aj_]; rfl) ?_ ?_))
 ·first | trivial | simp
 refine .block (.loopK (fun k : Nat => ⟨[.sl false (pgR l), .fn (.func 182) [] [], .no, .no, .no, .no, .no, .i .i64 l.length, .i .i64 k, .no, .no, .no, .no, .no, .no, .no, .no, .no, .no], bk_ [], us []⟩) (fun k : Nat => k ≤ l.length ∧ (l.take k).any (fun p => !okP p) = false) (fun k : Nat => l.length - k) (0) ?_ ?_ (fun k hI => ?_))
 ·simp
 ·exact Can.weak (Weak.lit (by simp only [go_sem, seval, ae_, ad_, aj_, ay_, leV, aw_, ax_, V.inn, us, T9_, Ta_] <;> (simp)) (by simp only [go_sem, seval, ae_, ad_, aj_, ay_, leV, aw_, ax_, V.inn, us, T9_, Ta_]) (by simp only [go_sem, seval, ae_, ad_, aj_, ay_, leV, aw_, ax_, V.inn, us, T9_, Ta_]))
 refine .seq (.rgn [] (by simp only [go_sem, seval, ae_, ad_, aj_]; rfl) ?_ ?_)
 ·first | trivial | simp
 refine .seq (.condB (by simp only [go_sem, seval, ae_, ad_, aj_]; rfl) (by simp only [go_sem, seval, ae_, ad_, aj_]) (fun h9 => ?_) (fun h9 => ?_))
 ·refine .skip (.seq (.block (.seq (.rgn [] (by simp only [go_sem, seval, ae_, ad_, aj_]; rfl) ?_ ?_))))
  ·first | trivial | simp
  refine .seq (.rgn [dc_ (k < l.length) (fun h => abf_ (l.getD k Pg0) (hs _ (b3_ h)))] (by simp only [go_sem, seval, ae_, ad_, aj_, eg_ (show k < l.length by simpa using h9)]; rfl) ?_ ?_)
  ·simp only [T3_] at h9; simp only [rr_, ac_, c9_, V.pure, Bool.and_true, true_and]; and_intros <;> first | omega | (simp; done) | trivial
  refine .condB (by simp only [go_sem, seval, ae_, ad_, aj_]; rfl) (by simp only [go_sem, seval, ae_, ad_, aj_]) (fun h16 => ?_) (fun h16 => ?_)
  ·refine .seq (.rgn [] (by simp only [go_sem, seval, ae_, ad_, aj_]; rfl) ?_ ?_)
   ·first | trivial | simp
   refine .ret ⟨.inr rfl, ?_⟩
   exact Out.plain (by simp only [Tryz.results210]; rfl) (by simp only [bd_, bo_, go_sem, seval, ae_, ad_, aj_] <;> (split <;> rfl)) (by simp only [bn_, go_sem, seval, ae_, ad_, aj_] <;> (simp at h9; rw [aas_ (d := Pg0) h9 hI.2 h16])) (by simp only [go_sem, seval, ae_, ad_, aj_])
  ·refine .skip (.rgn [] (by simp only [go_sem, seval, ae_, ad_, aj_]; rfl) ?_ ?_)
   ·first | trivial | simp
   refine Exists.intro (k + 1) ⟨?_, ?_, ?_⟩
   ·simp at h9; refine ⟨by omega, ?_⟩; rw [wc_ (d := Pg0) h9, hI.2, h16]; rfl
   ·simp at h9; omega
   exact Can.weak (Weak.lit (by simp only [go_sem, seval, ae_, ad_, aj_, ay_, leV, aw_, ax_, V.inn, us, T9_, Ta_] <;> (rw [bx_ (by omega) (by omega)]; simp)) (by simp only [go_sem, seval, ae_, ad_, aj_, ay_, leV, aw_, ax_, V.inn, us, T9_, Ta_]) (by simp only [go_sem, seval, ae_, ad_, aj_, ay_, leV, aw_, ax_, V.inn, us, T9_, Ta_]))
 ·refine .exit (.seq (.rgn [] (by simp only [go_sem, seval, ae_, ad_, aj_]; rfl) ?_ ?_))
  ·first | trivial | simp
  refine .ret ⟨.inr rfl, ?_⟩
  exact Out.plain (by simp only [Tryz.results210]; rfl) (by simp only [bd_, bo_, go_sem, seval, ae_, ad_, aj_] <;> (split <;> rfl)) (by simp only [bn_, go_sem, seval, ae_, ad_, aj_] <;> (simp at h9; have h0 := hI.2; rw [T1_ h9] at h0; rw [s2_ h0])) (by simp only [go_sem, seval, ae_, ad_, aj_])
theorem afz_ (l : List Pg) (hs : ∀ p ∈ l, pgB p) (hl : l.length ≤ 2000000) : ACall En 181 [.sl false (pgR l), .fn (.func 182) [] []] [] [.b (l.any fun p => !okP p)] [] := by
 refine ao_ (fn := Tryz.f181) [] Tryz.func181 rfl rfl (by simp) fun C => ?_
 rw [bb_]
 simp only [Tryz.ntmps181, T7_, List.length_nil, Nat.reduceAdd, Nat.reduceSub, List.replicate_succ, List.replicate_zero, List.cons_append, List.nil_append, bu_]
 refine .seq (.rgn [] (by simp only [go_sem, seval, ad_]; rfl) ?_ ?_)
 ·first | trivial | simp
 refine .seq (.rgn [bj_ (aio_ l hs hl)] (by simp only [go_sem, seval, ad_]; rfl) ?_ ?_)
 ·first | trivial | simp
 refine .ret ⟨.inr rfl, ?_⟩
 exact Out.plain (by simp only [Tryz.results181]; rfl) (by simp only [bd_, bo_, go_sem, seval, ad_] <;> (split <;> rfl)) (by simp only [bn_, go_sem, seval, ad_] <;> (rw [z1_])) (by simp only [go_sem, seval, ad_])
theorem ah9_ (l : List Pg) : g5_ l = ((decide ((1 : Int) ≤ l.length) && decide ((l.length : Int) ≤ 16)) && !l.any fun p => !okP p) := by
 rw [List.any_eq_not_all_not]; simp only [g5_, Bool.not_not, iw_]; rfl
theorem so_ (l : List Pg) (hs : ∀ p ∈ l, pgB p) (hl : l.length ≤ 2000000) : ACall En 131 [.sl false (pgR l)] [] [.b (g5_ l)] [] := by
 refine ao_ (fn := Tryz.f131) [] Tryz.func131 rfl rfl (by simp) fun C => ?_
 rw [bb_]
 simp only [Tryz.ntmps131, T7_, List.length_nil, Nat.reduceAdd, Nat.reduceSub, List.replicate_succ, List.replicate_zero, List.cons_append, List.nil_append, bu_]
 refine .seq (.rgn [] (by simp only [go_sem, seval, ae_, ad_]; rfl) ?_ ?_)
 ·first | trivial | simp
 refine .seq (.rgn [bj_ (uh_ l.length 1 16), bj_ (afz_ l hs hl)] (by simp only [go_sem, seval, ae_, ad_]; rfl) ?_ ?_)
 ·first | trivial | simp
 refine .ret ⟨.inr rfl, ?_⟩
 exact Out.plain (by simp only [Tryz.results131]; rfl) (by simp only [bd_, bo_, go_sem, seval, ae_, ad_] <;> (split <;> rfl)) (by simp only [bn_, go_sem, seval, ae_, ad_] <;> (rw [ah9_])) (by simp only [go_sem, seval, ae_, ad_])
def zPg : List V := [.s [], .b false, .s [], .sl true []]
theorem filP (l : List Pg) (k j : Nat) : ((dn_ (pgR l) zPg k).getD j []).drop 4 = [] := by
 rw [T8_]
 cases h : (dn_ (pgR l) zPg k)[j]? with
 | none => rfl
 | some r =>
  have hm := List.mem_of_getElem? h
  have : r.length = 4 := by
   rcases j0_ hm with hm | rfl
   ·obtain ⟨s, _, rfl⟩ := List.mem_map.1 hm; rfl
   ·rfl
  simp only [Option.getD_some]; exact List.drop_of_length_le (by omega)
end
end Go.Proofs.YtefmbmafdgedmaaGreatDoor
